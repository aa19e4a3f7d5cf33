/- Rows that come out are the caller's own: what is written into one, and grown behind one, leaves the others. -/
import Derived.Test.YtgippjhkimohlaaDoorScX
set_option linter.unusedVariables false
set_option linter.unusedSimpArgs false
namespace Go.Proofs.YtgippjhkimohlaaDoor
open Go.RowKit Go.Proofs.YtgippjhkimohlaaDoorW.PrintWords Go.Proofs.YtgippjhkimohlaaDoorW.PrintLast
section
variable {P : Program}
/-- what 'append' of one element does: the row's own cells stay, and all other blocks -/
structure Grew (W w' : World) (v v' : Value) (n : Nat) : Prop where
  size : W.heap.size ≤ w'.heap.size
  block : ∀ k, k < W.heap.size → some k ≠ v.ownBlock → w'.heap[k]? = W.heap[k]?
  cells : ∀ g j, v.ownBlock = some g → j < n → w'.cell? ⟨g, j, none⟩ = W.cell? ⟨g, j, none⟩
  at_ : v'.ownBlock = v.ownBlock ∨ ∃ b, v'.ownBlock = some b ∧ W.heap.size ≤ b
theorem run_append_two (w : World) (base : Nat) (t ty e : TypeId) (i : TypeInfo) (z : Value) (bytes : Nat) (ht : P.underlying t = some (.slice e)) (hi : P.info? e = some i) (hz : i.zero = some z)
    (hsize : i.size = 1) (hby : i.bytes = bytes) (hzs : z.cells.size = 1)
    (v : Value) (n : Nat) (xs : List Value) (hown : w.ownsRow base e 1 v n xs)
    (a : Addr) (y : Value) (hy : w.cell? a = some y) (h1 : y.oneCell' = true)
    (h63 : n + 1 ≤ maxLen) (hbytes : (n + 1) * bytes ≤ 140737488355328) (hbase : base ≤ w.heap.size) :
    ∃ v' w', (Builtin.append_ #[t, t] ty #[v, .slice (some a) 1 1]).run P w = .ok v' w' ∧ w'.ownsRow base e 1 v' (n + 1) (xs ++ [y]) ∧ w.grownBy w' v.ownBlock ∧ Grew w w' v v' n := by
  have hnews : ∀ j u, ([y] : List Value)[j]? = some u → w.cell? (a.add j) = some u := by
    intro j u hj
    match j, hj with
    | 0, hj => simp at hj; subst hj; simpa [Addr.add] using hy
  obtain ⟨v', w', hr, ho, hg, -⟩ := run_append_own (P := P) w base t ty e i z 1 bytes ht hi hz hsize hby hzs (by decide) v n xs hown a 1 1 [y] rfl hnews (fun u hu => by simp at hu; subst hu; exact h1) h63 hbytes hbase
  have fresh : ∀ (c : Nat) (o : Obj), w' = w.drew.alloc o → v' = .slice (some ⟨w.heap.size, 0, none⟩) (n + 1) c → Grew w w' v v' n := by
    intro c o hw hv
    have hold : ∀ k, k < w.heap.size → w'.heap[k]? = w.heap[k]? := fun k hk => by rw [hw]; exact heap_alloc_old w.drew _ hk
    refine ⟨hg.size, fun k hk _ => hold k hk, fun g j hvb hj => World.cell?_of_block (hold g (hown.lt g hvb).2), Or.inr ⟨w.heap.size, by rw [hv]; rfl, Nat.le_refl _⟩⟩
  refine ⟨v', w', hr, ho, hg, ?_⟩
  rcases hown.2 with ⟨rfl, rfl⟩ | ⟨g, cap, cur, rfl, hbg, hgh, hnc, hcm, hcs, htake⟩
  · have hx : xs = [] := List.eq_nil_of_length_eq_zero (by simpa using hown.1)
    subst hx
    have hr2 := run_append_nil (P := P) w t ty e i z ht hi hz a 1 1 [y] (by rw [hsize]; rfl) hnews (by omega) (by omega) (by rw [hby]; have := hbytes; simp at this; omega)
    have e := hr.symm.trans hr2
    injection e with e1 e2
    exact fresh _ _ e2 (by rw [e1])
  · by_cases hroom : n + 1 ≤ cap
    · have hr2 := run_append_room (P := P) w t ty e i ht hi g n cap cur hgh a 1 1 [y] (by rw [hsize]; rfl) hnews (fun u hu => by simp at hu; subst hu; exact h1) hroom (by rw [hsize, hcs]; simp; omega)
      have e := hr.symm.trans hr2
      injection e with e1 e2
      have hvb : v'.ownBlock = some g := by rw [e1]; rfl
      refine ⟨hg.size, fun k hk hne => hg.block k hk hne, fun g2 j hg2 hj => ?_, Or.inl (by rw [hvb]; rfl)⟩
      have eg : g = g2 := by simpa [Value.ownBlock] using hg2
      subst eg
      have hxl : xs.length = n := by rw [hown.1, Nat.mul_one]
      have c1 := hown.cells (g := g) rfl j (xs[j]'(by omega)) (List.getElem?_eq_getElem (by omega))
      have c2 := ho.cells (g := g) hvb j (xs[j]'(by omega)) (by rw [List.getElem?_append_left (by omega)]; exact List.getElem?_eq_getElem (by omega))
      have ea : ∀ j : Nat, ((⟨g, 0, none⟩ : Addr).add j) = ⟨g, j, none⟩ := fun j => by unfold Addr.add; split <;> simp_all
      rw [ea] at c1 c2
      rw [c1, c2]
    · have holds : ∀ j u, xs[j]? = some u → w.cell? ((⟨g, 0, none⟩ : Addr).add j) = some u := hown.cells (g := g) rfl
      have hr2 := run_append_grow (P := P) w t ty e i z ht hi hz ⟨g, 0, none⟩ n cap xs (by rw [hsize]; exact hown.1) holds a 1 1 [y] (by rw [hsize]; rfl) hnews (by omega) (by simp only [maxLen] at h63; omega) (growslice_fits (by omega) (by rw [hby]; exact hbytes))
      have e := hr.symm.trans hr2
      injection e with e1 e2
      exact fresh _ _ e2 (by rw [e1])
theorem wpList_append_two {ops : Array Oper} {rest : List Oper} {o : Oper} {a : Act} {Q : Exit → Act → World → Prop} {W : World} (hgd : o.guard = none) (s x : Operand) (t : TypeId)
    (ho : o.op = .call { callee := .builtin .append, args := #[s, x], argTypes := #[t, t] })
    (base : Nat) (e : TypeId) (k : IntKind) (bytes : Nat) (ht : P.underlying t = some (.slice e)) (hinfo : (P.info? e).map (fun i => (i.zero, i.size, i.bytes)) = some (some (.int k 0), 1, bytes))
    (v : Value) (xs : List Int) (y : Int) (hs : a.eval s = v) (hx : a.eval x = .slice (some ⟨W.heap.size, 0, none⟩) 1 1) (hown : W.ownsRow base e 1 v xs.length (nums k xs))
    (h63 : xs.length + 1 ≤ maxLen) (hbytes : (xs.length + 1) * bytes ≤ 140737488355328) (hbase : base ≤ W.heap.size)
    (h : ∀ v' w', w'.ownsRow base e 1 v' (xs.length + 1) (nums k (xs ++ [y])) → W.grownBy w' v.ownBlock → Grew (W.alloc (.cells #[.int k y] e)) w' v v' xs.length → wpList P ops Q rest (a.put o.dst v') w') : wpList P ops Q (o :: rest) a (W.alloc (.cells #[.int k y] e)) := by
  obtain ⟨i0, hi, hz0, hz1, hz2⟩ := info_parts hinfo
  refine wpList_plain hgd fun K hK => ?_
  obtain ⟨v', w', hr, h2, h3, h4⟩ := run_append_two (P := P) (W.alloc (.cells #[.int k y] e)) base t o.type e i0 (.int k 0) bytes ht hi hz0 hz1 hz2 rfl v xs.length (nums k xs) (hown.alloc _) ⟨W.heap.size, 0, none⟩ (.int k y) (by rw [Lib.cell_of_heap (heap_alloc_new W _)]; rfl) rfl h63 hbytes (by simp; omega)
  unfold Oper.wp execOp
  simp only [ho, resolve, invoke, builtin, Sem.run_bind, Sem.run_pure, Result.andThen_ok, List.map_toArray, List.map_cons, List.map_nil, hs, hx, hr]
  refine hK _ _ (h v' w' (by simpa [nums] using h2) (World.grownBy.trans (World.grownBy_alloc W _ _) h3) h4)
end
end Go.Proofs.YtgippjhkimohlaaDoor
