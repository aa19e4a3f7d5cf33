/- Scalar: all pieces of a text, by the program and by the document. -/
import Derived.Test.YtgippjhkimohlaaDoorScaI
set_option linter.unusedVariables false
set_option linter.unusedSimpArgs false
namespace Go.Proofs.YtgippjhkimohlaaDoor
open Go.RowKit Go.Proofs.YtgippjhkimohlaaDoorW.PrintWords Go.Proofs.YtgippjhkimohlaaDoorW.PrintLast
/-- the cells of a piece that begins at a place -/
def PCell (p : Int × Pc) (c : List Value) : Prop := c = [.int .i64 p.1, .int .i64 p.2.size, .int .i32 p.2.rune, .bool p.2.bad]
/-- a row of pieces, new -/
def PPost (T : TypeId) (L : List (Int × Pc)) (w : World) (e : Ending) (w' : World) : Prop :=
  Below w.heap.size w w' ∧ ∃ v, e = .returned v ∧ OwnRow PCell T 4 w' w.heap.size v L
theorem info_pc : (Tryd.prog.info? 32).map (fun i => (i.zero, i.size, i.bytes)) = some (some (.agg #[.int .i64 0, .int .i64 0, .int .i32 0, .bool false]), 4, 24) := by kernel_rfl
theorem info_rpc : (Tryd.prog.info? 33).map (fun i => (i.zero, i.size, i.bytes)) = some (some (.agg #[.int .i64 0, .int .i64 0, .int .i32 0, .bool false]), 4, 24) := by kernel_rfl
theorem size_alloc (w : World) (o : Obj) : (w.alloc o).heap.size = w.heap.size + 1 := by simp
theorem own_row_lt {α : Type} {R : α → List Value → Prop} {e : TypeId} {size base : Nat} {w : World} {v : Value} {ps : List α} (h : OwnRow R e size w base v ps) (k : Nat) (hk : v.ownBlock = some k) : k < w.heap.size := by
  obtain ⟨_, h, _⟩ := h
  exact own_lt h k hk
set_option maxRecDepth 100000 in
set_option maxHeartbeats 4000000 in
theorem Pieces_any (s : ByteArray) (w : World) (hs : s.size * 24 + 24 ≤ 140737488351232) (T : Tabs w) : Calls Tryd.prog 21 #[.string s] w (PPost 32 (pcs s 0) w) := by
  generalize hL : pcs s 0 = L
  have HL := Lib.hid hL
  clear hL
  go_enter Tryd.func21, Tryd.ntmps21
  go_wp2
  go_loopw [3, 4] (fun u a wr => ∃ (i : Int) (acc : List (Int × Pc)), a = .int .i64 i ∧ 0 ≤ i ∧ i ≤ s.size ∧ Hid (acc ++ pcs s i = L) ∧ (acc.length : Int) ≤ i ∧ OwnRow PCell 32 4 wr w.heap.size u acc ∧ Below w.heap.size w wr) (fun _ a _ => s.size - (intOf a).toNat)
  case atStart => exact ⟨0, [], rfl, by omega, by omega, HL, by simp, OwnRow.none_ _ _ _ _ _, Below.refl _ _⟩
  case round =>
    clear HL
    obtain ⟨i, acc, rfl, h0, h1, hA, hlen, ho, hbel⟩ := hrel
    by_cases hlt : i < s.size
    · have hgo := pcs_go s i h0 hlt
      have hst := fst_step s i h0 hlt
      have hts := tail_size s i h0 (by omega)
      have hf := first_any (tail s i) wr (by omega) (by omega) (Utf8Tabs_below T hbel)
      unfold tail at hf
      have HA : Hid ((acc ++ [(i, fstT (tail s i))]) ++ pcs s (i + (fstT (tail s i)).size) = L) := Lib.hid (by rw [← hA.out, hgo]; simp)
      change Calls _ _ _ _ fun e w' => e = .returned (.tuple #[pcV 0 (fstT (tail s i)), .bool (opnT (tail s i))]) ∧ Below wr.heap.size wr w' at hf
      generalize fstT (tail s i) = p at *
      generalize opnT (tail s i) = o at *
      obtain ⟨n, r, b⟩ := p
      simp only at hst HA
      have Hf := Lib.hid hf
      clear hf hgo hA hts
      obtain ⟨A0, c0, rfl, hc0⟩ := ho.slice_
      have hnb := own_row_lt ho
      have hbz := hbel.size
      go_wp2_with (first
        | (go_at_call 61; (with_reducible refine (Hf.out).mono ?_); rintro e w1 ⟨rfl, hb1⟩; have hz1 := hb1.size; have hq := ((fun h => OwnRow.below h (below_alloc hb1 (.cells #[.int .i64 i, .int .i64 n, .int .i32 r, .bool b] 32))) ho); have hq2 := below_alloc (below_after hbel hb1) (.cells #[.int .i64 i, .int .i64 n, .int .i32 r, .bool b] 32); have hfr : some w1.heap.size ≠ (Value.slice A0 acc.length c0).ownBlock := fun e => (by have := hnb _ e.symm; omega))
        | (at_builtin; refine OwnRow.append (R := PCell) (w0 := w) (W := w1.alloc (.cells #[.int .i64 i, .int .i64 n, .int .i32 r, .bool b] 32)) w.heap.size rfl (.tmp 20) (.tmp 22) 26 32 (.agg #[.int .i64 0, .int .i64 0, .int .i32 0, .bool false]) 4 24 rfl Tryd.underlying26 info_pc rfl (by decide) (by decide) (.slice A0 acc.length c0) acc (i, ⟨n, r, b⟩) [.int .i64 i, .int .i64 n, .int .i32 r, .bool b] rfl (by rw [size_alloc]; rfl) rfl rfl (fun u hu => by simp at hu; rcases hu with rfl | rfl | rfl | rfl <;> rfl) hq hq2 (by rw [size_alloc]; omega) (by omega) ?_; intro v1 w2 ho2 hb2 hg2 hat2; obtain ⟨A2, c2, rfl, hc2⟩ := ho2.slice_; rw [List.length_append, List.length_singleton] at ho2; obtain ⟨d0, d1, d2, d3, d4, d5, d6, d7⟩ := Blk.facts ((Blk.new w1 32 #[.int .i64 i, .int .i64 n, .int .i32 r, .bool b]).grown hg2 hfr)))
      exact ⟨⟨_, _, rfl, by omega, by omega, HA, by rw [List.length_append, List.length_singleton]; omega, ho2, hb2⟩, by simp [intOf]; omega⟩
    · obtain rfl : i = s.size := by omega
      have hA2 := hA.out
      rw [pcs_end s _ (Int.le_refl _), List.append_nil] at hA2
      subst hA2
      go_wp2
      go_ret
      exact ⟨hbel, _, rfl, ho⟩
theorem row_lit0 {α : Type} {R : α → List Value → Prop} (w : World) (e : TypeId) (size : Nat) : OwnRow R e size (w.alloc (.cells #[] e)) w.heap.size (.slice (some ⟨w.heap.size, 0, none⟩) 0 0) [] := OwnRow.lit w w.heap.size (Reps.none _ _) (Nat.le_refl _) (by simp)
set_option maxRecDepth 100000 in
set_option maxHeartbeats 4000000 in
theorem RPieces_any (s : ByteArray) (w : World) (hs : s.size * 24 + 24 ≤ 140737488351232) : Calls Tryd.prog 22 #[.string s] w (PPost 33 (pcs s 0) w) := by
  generalize hL : pcs s 0 = L
  have HL := Lib.hid hL
  clear hL
  go_enter Tryd.func22, Tryd.ntmps22
  go_wp2
  go_loopw [3, 4] (fun u a wr => ∃ (i : Int) (acc : List (Int × Pc)), a = .int .i64 i ∧ 0 ≤ i ∧ i ≤ s.size ∧ Hid (acc ++ pcs s i = L) ∧ (acc.length : Int) ≤ i ∧ OwnRow PCell 33 4 wr w.heap.size u acc ∧ Below w.heap.size w wr) (fun _ a _ => s.size - (intOf a).toNat)
  case atStart => exact ⟨0, [], rfl, by omega, by omega, HL, by simp, row_lit0 _ _ _, below_one _ _⟩
  case round =>
    clear HL
    obtain ⟨i, acc, rfl, h0, h1, hA, hlen, ho, hbel⟩ := hrel
    by_cases hlt : i < s.size
    · have hgo := pcs_go s i h0 hlt
      have hst := fst_step s i h0 hlt
      have hts := tail_size s i h0 (by omega)
      have hf := RFirst_any (tail s i) wr (by omega) (by omega)
      unfold tail at hf
      have HA : Hid ((acc ++ [(i, fstT (tail s i))]) ++ pcs s (i + (fstT (tail s i)).size) = L) := Lib.hid (by rw [← hA.out, hgo]; simp)
      change Calls _ _ _ _ fun e w' => e = .returned (pcV 0 (fstT (tail s i))) ∧ Below wr.heap.size wr w' at hf
      generalize fstT (tail s i) = p at *
      obtain ⟨n, r, b⟩ := p
      simp only at hst HA
      have Hf := Lib.hid hf
      clear hf hgo hA hts
      obtain ⟨A0, c0, rfl, hc0⟩ := ho.slice_
      have hnb := own_row_lt ho
      have hbz := hbel.size
      go_wp2_with (first
        | (go_at_call 26; (with_reducible refine (Hf.out).mono ?_); rintro e w1 ⟨rfl, hb1⟩; have hz1 := hb1.size; have hq := ((fun h => OwnRow.below h (below_alloc hb1 (.cells #[.int .i64 i, .int .i64 n, .int .i32 r, .bool b] 33))) ho); have hq2 := below_alloc (below_after hbel hb1) (.cells #[.int .i64 i, .int .i64 n, .int .i32 r, .bool b] 33); have hfr : some w1.heap.size ≠ (Value.slice A0 acc.length c0).ownBlock := fun e => (by have := hnb _ e.symm; omega))
        | (at_builtin; refine OwnRow.append (R := PCell) (w0 := w) (W := w1.alloc (.cells #[.int .i64 i, .int .i64 n, .int .i32 r, .bool b] 33)) w.heap.size rfl (.tmp 17) (.tmp 19) 28 33 (.agg #[.int .i64 0, .int .i64 0, .int .i32 0, .bool false]) 4 24 rfl Tryd.underlying28 info_rpc rfl (by decide) (by decide) (.slice A0 acc.length c0) acc (i, ⟨n, r, b⟩) [.int .i64 i, .int .i64 n, .int .i32 r, .bool b] rfl (by rw [size_alloc]; rfl) rfl rfl (fun u hu => by simp at hu; rcases hu with rfl | rfl | rfl | rfl <;> rfl) hq hq2 (by rw [size_alloc]; omega) (by omega) ?_; intro v1 w2 ho2 hb2 hg2 hat2; obtain ⟨A2, c2, rfl, hc2⟩ := ho2.slice_; rw [List.length_append, List.length_singleton] at ho2; obtain ⟨d0, d1, d2, d3, d4, d5, d6, d7⟩ := Blk.facts ((Blk.new w1 33 #[.int .i64 i, .int .i64 n, .int .i32 r, .bool b]).grown hg2 hfr)))
      exact ⟨⟨_, _, rfl, by omega, by omega, HA, by rw [List.length_append, List.length_singleton]; omega, ho2, hb2⟩, by simp [intOf]; omega⟩
    · obtain rfl : i = s.size := by omega
      have hA2 := hA.out
      rw [pcs_end s _ (Int.le_refl _), List.append_nil] at hA2
      subst hA2
      go_wp2
      go_ret
      exact ⟨hbel, _, rfl, ho⟩
end Go.Proofs.YtgippjhkimohlaaDoor
