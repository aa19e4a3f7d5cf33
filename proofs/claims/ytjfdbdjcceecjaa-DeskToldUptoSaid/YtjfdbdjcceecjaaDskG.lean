/- Desk: Words, by the program and by the document. -/
import Derived.Test.YtjfdbdjcceecjaaDskF
set_option linter.unusedVariables false
set_option linter.unusedSimpArgs false
namespace Go.Proofs.Ytjfdbdjcceecjaa
open Go.RowKit Go.Proofs.YtjfdbdjcceecjaaW.PrintWords Go.Proofs.YtjfdbdjcceecjaaW.PrintLast
theorem info_str : (Try.prog.info? 9).map (fun i => (i.zero, i.size, i.bytes)) = some (some (.string ByteArray.empty), 1, 16) := by kernel_rfl
/-- texts as cells -/
def strV (l : List ByteArray) : List Value := l.map Value.string
/-- what Words tells -/
def SPost (R : Option (List (ByteArray × Bool))) (w : World) (e : Ending) (w' : World) : Prop :=
  Below w.heap.size w w' ∧ ∃ v, e = .returned (.tuple #[v, .bool R.isSome]) ∧ w'.ownsRow w.heap.size 9 1 v ((R.getD []).map (·.1)).length (strV ((R.getD []).map (·.1)))
/-- a word in a row of words -/
theorem word_at {f : Bool → Bool} {w : World} {A : Option Addr} {n : Nat} {l : List (ByteArray × Bool)} (h : ReadsRow (WCell f) 2 w A n l) (k : Nat) (hk : k < n) :
    ∃ ad, A = some ad ∧ w.cell? (ad.add (k * 2)) = some (.string (l.getD k (ByteArray.empty, false)).1) ∧ w.cell? ⟨(ad.add (k * 2)).block, (ad.add (k * 2)).off + 1, none⟩ = some (.bool (f (l.getD k (ByteArray.empty, false)).2)) := by
  obtain ⟨ad, c, he, hc, hp, hu⟩ := h.get_ (ByteArray.empty, false) (k : Int) (by omega) (by omega)
  simp only [Int.toNat_natCast] at hp hu
  unfold WCell at hp
  rw [hp] at hu
  refine ⟨ad, he, hu 0 _ rfl, ?_⟩
  rw [← add_field ad (k * 2) 1 (by omega)]
  exact hu 1 _ rfl
theorem print_append_str {P : Program} {ops : Array Oper} {rest : List Oper} {o : Oper} {a : Act} {Q : Exit → Act → World → Prop} {w0 W : World} (base : Nat) (hgd : o.guard = none) (s x : Operand) (t e : TypeId)
    (ho : o.op = .call { callee := .builtin .append, args := #[s, x], argTypes := #[t, t] })
    (ht : P.underlying t = some (.slice e)) (hinfo : (P.info? e).map (fun i => (i.zero, i.size, i.bytes)) = some (some (.string ByteArray.empty), 1, 16))
    (v : Value) (l : List ByteArray) (y : ByteArray) (hs : a.eval s = v) (hx : a.eval x = .slice (some ⟨W.heap.size, 0, none⟩) 1 1)
    (HO : W.ownsRow base e 1 v l.length (strV l)) (HB : Below base w0 W) (hbase : base ≤ W.heap.size) (hl : (l.length + 1) * 16 ≤ 140737488355328)
    (h : ∀ v1 w1, w1.ownsRow base e 1 v1 (l ++ [y]).length (strV (l ++ [y])) → Below base w0 w1 → W.grownBy w1 v.ownBlock → wpList P ops Q rest (a.put o.dst v1) w1) :
    wpList P ops Q (o :: rest) a (W.alloc (.cells #[.string y] e)) := by
  have e0 : (strV l).length = l.length := by simp [strV]
  exact print_append base hgd s x t e (.string ByteArray.empty) 16 ho ht hinfo rfl (by decide) v (strV l) (.string y) hs hx rfl (by rw [e0]; exact HO) HB hbase (by rw [e0]; exact hl)
    fun v1 w1 hown hB hg hat => h v1 w1 (by simpa [strV] using hown) hB hg
theorem size_alloc (w : World) (o : Obj) : (w.alloc o).heap.size = w.heap.size + 1 := by simp
theorem take_word (l : List (ByteArray × Bool)) (k : Nat) (h : k < l.length) : (l.take (k + 1)).map (·.1) = (l.take k).map (·.1) ++ [(l.getD k (ByteArray.empty, false)).1] := by
  rw [List.take_succ_eq_append_getElem h, List.map_append, List.getD_eq_getElem?_getD, List.getElem?_eq_getElem h]
  rfl
set_option maxHeartbeats 2000000 in
theorem Words_any (s : ByteArray) (w : World) (hs : s.size * 24 + 24 ≤ 140737488351232) (hn : ((wR (s.size + 1) s).getD []).length ≤ s.size) : Calls Try.prog 5 #[.string s] w (SPost (wR (s.size + 1) s) w) := by
  have hw := fun W => words_any s W hs
  generalize wR (s.size + 1) s = R at *
  have Hw := Lib.hid hw
  clear hw
  go_enter Try.func5, Try.ntmps5
  go_wp2_with (go_at_call 10; (with_reducible refine (Hw.out _).mono ?_); rintro e w1 ⟨hb1, v, rfl, ho⟩; obtain ⟨A1, c1, rfl, hc1, hr⟩ := ho.reads)
  obtain ⟨l, hl⟩ : ∃ l, R.getD [] = l := ⟨_, rfl⟩
  have Hl := Lib.hid hl
  simp only [hl] at hr hn hc1 ⊢
  have Hr := Lib.hid hr
  clear hl ho hr
  go_loopw [6, 16] (fun u i wr => ∃ k : Nat, i = .int .i64 (k : Int) ∧ k ≤ l.length ∧ wr.ownsRow w1.heap.size 9 1 u ((l.take k).map (·.1)).length (strV ((l.take k).map (·.1))) ∧ Below w1.heap.size w1 wr) (fun _ i _ => l.length - (intOf i).toNat)
  case atStart => exact ⟨0, rfl, by omega, own_nil _ _ _ _, Below.refl _ _⟩
  case round =>
    obtain ⟨k, rfl, hk, ho, hbel⟩ := hrel
    by_cases hlt : k < l.length
    · obtain ⟨ad, rfl, d0, d1⟩ := word_at (Hr.out.imp_ hbel (fun p c h => h)) k hlt
      have ht := take_word l k hlt
      have hz : (l.take k).length ≤ k := List.length_take_le _ _
      have hsz := hbel.size
      have hsz1 := hb1.size
      have hbel2 := hb1.trans (hbel.mono hsz1)
      generalize (l.getD k (ByteArray.empty, false)).1 = x at *
      generalize (l.getD k (ByteArray.empty, false)).2 = q at *
      have Ht := Lib.hid ht
      clear ht
      go_wp2_with (at_builtin; (refine print_append_str (w0 := w1) w1.heap.size rfl (.tmp 20) (.tmp 23) 22 9 rfl Try.underlying22 info_str _ ((l.take k).map (·.1)) x rfl (by rw [size_alloc]; rfl) (ho.alloc _) (below_alloc hbel _) (by simp; omega) (by rw [List.length_map]; omega) ?_; intro v1 w2 ho2 hb2 hg2))
      rw [← Ht.out] at ho2
      exact ⟨⟨k + 1, rfl, by omega, ho2, hb2⟩, by simp [intOf]; omega⟩
    · obtain rfl : k = l.length := by omega
      rw [List.take_length] at ho
      have hb3 := below_after hb1 hbel
      have Ho := Lib.hid (own_less ho hb1.size)
      clear ho
      go_wp2
      go_ret2
      exact ⟨hb3, _, rfl, by rw [Hl.out]; exact Ho.out⟩
theorem own_lit0 (w : World) : (w.alloc (.cells #[] 9)).ownsRow w.heap.size 9 1 (.slice (some ⟨w.heap.size, 0, none⟩) 0 0) 0 (strV []) := World.ownsRow_lit (base := w.heap.size) (e := 9) (size := 1) w #[] 0 (Nat.le_refl _) (by simp [maxLen]) rfl
set_option maxHeartbeats 2000000 in
theorem RWords_any (s : ByteArray) (w : World) (hs : s.size * 24 + 24 ≤ 140737488351232) (hn : ((wR (s.size + 1) s).getD []).length ≤ s.size) : Calls Try.prog 6 #[.string s] w (SPost (wR (s.size + 1) s) w) := by
  have hw := fun W => split_any s W hs
  generalize wR (s.size + 1) s = R at *
  have Hw := Lib.hid hw
  clear hw
  go_enter Try.func6, Try.ntmps6
  go_wp2_with (go_at_call 11; (with_reducible refine (Hw.out _).mono ?_); rintro e w1 ⟨hb1, v, rfl, ho⟩; obtain ⟨A1, c1, rfl, hc1, hr⟩ := ho.reads)
  obtain ⟨l, hl⟩ : ∃ l, R.getD [] = l := ⟨_, rfl⟩
  have Hl := Lib.hid hl
  simp only [hl] at hr hn hc1 ⊢
  have Hr := Lib.hid hr
  clear hl ho hr
  go_loopw [6, 17] (fun u i wr => ∃ k : Nat, i = .int .i64 (k : Int) ∧ k ≤ l.length ∧ wr.ownsRow w1.heap.size 9 1 u ((l.take k).map (·.1)).length (strV ((l.take k).map (·.1))) ∧ Below w1.heap.size w1 wr) (fun _ i _ => l.length - (intOf i).toNat)
  case atStart => exact ⟨0, rfl, by omega, own_lit0 w1, below_one _ _⟩
  case round =>
    obtain ⟨k, rfl, hk, ho, hbel⟩ := hrel
    by_cases hlt : k < l.length
    · obtain ⟨ad, rfl, d0, d1⟩ := word_at (Hr.out.imp_ hbel (fun p c h => h)) k hlt
      have ht := take_word l k hlt
      have hz : (l.take k).length ≤ k := List.length_take_le _ _
      have hsz := hbel.size
      have hsz1 := hb1.size
      have hbel2 := hb1.trans (hbel.mono hsz1)
      generalize (l.getD k (ByteArray.empty, false)).1 = x at *
      generalize (l.getD k (ByteArray.empty, false)).2 = q at *
      have Ht := Lib.hid ht
      clear ht
      go_wp2_with (at_builtin; (refine print_append_str (w0 := w1) w1.heap.size rfl (.tmp 21) (.tmp 24) 22 9 rfl Try.underlying22 info_str _ ((l.take k).map (·.1)) x rfl (by rw [size_alloc]; rfl) (ho.alloc _) (below_alloc hbel _) (by simp; omega) (by rw [List.length_map]; omega) ?_; intro v1 w2 ho2 hb2 hg2))
      rw [← Ht.out] at ho2
      exact ⟨⟨k + 1, rfl, by omega, ho2, hb2⟩, by simp [intOf]; omega⟩
    · obtain rfl : k = l.length := by omega
      rw [List.take_length] at ho
      have hb3 := below_after hb1 hbel
      have Ho := Lib.hid (own_less ho hb1.size)
      clear ho
      go_wp2
      go_ret2
      exact ⟨hb3, _, rfl, by rw [Hl.out]; exact Ho.out⟩
end Go.Proofs.Ytjfdbdjcceecjaa
