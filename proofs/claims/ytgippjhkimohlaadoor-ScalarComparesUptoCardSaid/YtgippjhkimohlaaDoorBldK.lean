/- A strings.Builder of the call's own, with what it leaves as it stood: every block that is neither the builder's nor a row of bytes. -/
import Derived.Test.YtgippjhkimohlaaDoorScX
import Derived.Lib.FrozenHead2
import Derived.Lib.OthersKept
import Derived.Lib.BufferKept
set_option linter.unusedVariables false
set_option linter.unusedSimpArgs false
namespace Go.Proofs.YtgippjhkimohlaaDoor
open Go.RowKit Go.Proofs.YtgippjhkimohlaaDoorW.PrintWords Go.Proofs.YtgippjhkimohlaaDoorW.PrintLast
set_option maxRecDepth 100000 in
theorem copyCheckK_any (B b : Nat) (xs : List Int) (w : World) (h : BldF w B b xs) :
    Calls Tryd.prog 79 #[.pointer (some ⟨b, 0, none⟩)] w fun e w' => e = .returned (.tuple #[]) ∧ Lib.BuilderAtF 95 5 B b (.pointer (some ⟨b, 0, none⟩)) (nums .u8 xs) w' ∧ Below B w w' ∧ Lib.OthersKept 5 (some b) w w' := by
  obtain ⟨j, hj, hjs⟩ := Option.map_eq_some_iff.1 sizeBld
  rcases h with h | h
  · have h0 := h.cell0
    have hsh := h.shape
    have hfz := h.frozen0
    have H := Lib.hid h
    clear h
    go_enter Tryd.func79, Tryd.ntmps79
    go_wp2
    rw [Lib.run_to_unsafe w ⟨b, 0, none⟩ Tryd.underlying92 Tryd.underlying122 hj (by rw [hjs]; decide) hsh (Nat.zero_lt_succ 1)]
    simp only [Result.andThen]
    rw [Oper.upon_value]
    go_wp2
    rw [run_callFunc_extern Tryd.func84 (by kernel_rfl) (by kernel_rfl) (by kernel_rfl) (e := Extern.AbiNoEscape.same) (by kernel_rfl)]
    rw [Lib.run_noEscape]
    simp only [Result.andThen]
    rw [Oper.upon_value]
    go_wp2
    rw [Lib.run_from_unsafe w ⟨b, 0, none⟩ Tryd.underlying122 Tryd.underlying92 hj hsh liesBld]
    simp only [Result.andThen]
    rw [Oper.upon_value]
    go_wp2
    go_end0
    exact ⟨rfl, H.out.used _, (Below.refl B w).setCell (p := ⟨b, 0, none⟩) H.out.1 _, (Lib.OthersKept.refl _ _ w).setCell ⟨b, 0, none⟩ rfl _⟩
  · have h0 := h.cell0
    have H := Lib.hid h
    clear h
    go_enter Tryd.func79, Tryd.ntmps79
    go_wp2
    rw [Lib.run_neq_ptr_same w _ Tryd.underlying92 hj]
    go_wp2
    go_end0
    exact ⟨rfl, H.out, Below.refl B _, Lib.OthersKept.refl _ _ _⟩
set_option maxRecDepth 100000 in
set_option maxHeartbeats 1000000 in
theorem writeRuneK (B b : Nat) (xs : List Int) (r : Int) (hr : scal r = true) (w : World) (h : BldF w B b xs) (hlen : xs.length + 4 ≤ 140737488355328) (hBw : B ≤ w.heap.size) :
    Calls Tryd.prog 63 #[.pointer (some ⟨b, 0, none⟩), .int .i32 r] w fun e w' => (∃ v, e = .returned v) ∧ BldF w' B b (xs ++ encB r) ∧ Below B w w' ∧ Lib.OthersKept 5 (some b) w w' := by
  have hs := (scal_iff r).1 hr
  have hc := runeCells_enc r hr
  have hl := encB_len4 r
  have Hc := Lib.hid (fun W h => copyCheckK_any B b xs W h)
  have Ha := Lib.hid (fun v W h hB => Tryd.utf8_AppendRune_row B v xs.length (nums .u8 xs) r (by omega) (by omega) W h hlen hB)
  simp only [hc] at Ha
  have H := Lib.hid h
  clear h
  go_enter Tryd.func63, Tryd.ntmps63
  go_wp2_with (first
    | (go_at_call 79; (with_reducible refine (Hc.out _ H.out).mono ?_); rintro e w1 ⟨rfl, h1, hb1, hk1⟩; obtain ⟨hB, v, hbk, hown, hne⟩ := h1; rw [nums_length] at hown; have hz1 := hb1.size; have hlt : b < w1.heap.size := (Array.getElem?_eq_some_iff.1 hbk).1; have hvl := (fun h => World.ownsRowF.lt h) hown; obtain ⟨A0, c0, rfl⟩ := ownF_slice hown; have c1 : w1.cell? ⟨b, 1, none⟩ = some (.slice A0 xs.length c0) := (by rw [Lib.cell_of_heap hbk]; rfl); have HK1 := Lib.hid hk1; clear hk1)
    | (go_at_call 80; refine (Ha.out _ _ hown (by omega)).mono ?_; rintro e w2 ⟨v2, rfl, ho2, o2, hg2⟩; obtain ⟨A2, c2, rfl⟩ := ownF_slice ho2; have hz2 : (w1.alloc o2).heap.size = w1.heap.size + 1 := (by simp); have hbk2 : w2.heap[b]? = some (.cells #[.pointer (some ⟨b, 0, none⟩), .slice A0 xs.length c0] 95 (0, 0)) := (hg2.block b (by omega) (fun e => hne e.symm)).trans ((Below.heap_alloc w1 o2 b hlt).trans hbk); have d1 : w2.cell? ⟨b, 1, none⟩ = some (.slice A0 xs.length c0) := (by rw [Lib.cell_of_heap hbk2]; rfl); have f1 : w2.frozen? ⟨b, 1, none⟩ = false := Lib.frozen_of_heap hbk2 1; have Hb := Lib.hid hbk2; have hb2 := (hb1.alloc (Nat.le_trans hBw hz1) o2).grown hg2 (by omega) (fun k hk => (hvl k hk).1); have hk2 := Lib.hid ((HK1.out.alloc o2).grown hg2 (Lib.ownsRowF_kind (hown.alloc _))); clear hbk hbk2))
  go_ret2
  refine ⟨⟨_, rfl⟩, Or.inr ?_, hb2.setCell (p := ⟨b, 1, none⟩) hB _, hk2.out.setCell ⟨b, 1, none⟩ rfl _⟩
  rw [nums_append]
  exact Lib.BuilderAtF.put hB Hb.out (by have e : (nums .u8 xs).length = xs.length := nums_length _ _; rw [List.length_append, e]; exact ho2) (by decide)
theorem one_cell (w : World) (c : Int) (t : TypeId) : ∀ j u, ([Value.int .u8 c] : List Value)[j]? = some u → (w.alloc (.cells #[.int .u8 c] t)).cell? ((⟨w.heap.size, 0, none⟩ : Addr).add j) = some u := by
  intro j u hj
  match j, hj with
  | 0, hj => simp at hj; subst hj; simp [Addr.add]
set_option maxHeartbeats 1000000 in
set_option maxRecDepth 100000 in
theorem writeByteK (B b : Nat) (xs : List Int) (c : Int) (w : World) (h : BldF w B b xs) (hlen : xs.length + 1 ≤ 140737488355328) (hBw : B ≤ w.heap.size) :
    Calls Tryd.prog 73 #[.pointer (some ⟨b, 0, none⟩), .int .u8 c] w fun e w' => (∃ v, e = .returned v) ∧ BldF w' B b (xs ++ [c]) ∧ Below B w w' ∧ Lib.OthersKept 5 (some b) w w' := by
  obtain ⟨i0, hi, hz0, hz1, hz2⟩ := info_parts info_u8
  have Hc := Lib.hid (fun W h => copyCheckK_any B b xs W h)
  have H := Lib.hid h
  clear h
  go_enter Tryd.func73, Tryd.ntmps73
  go_wp2_with (first
    | (go_at_call 79; (with_reducible refine (Hc.out _ H.out).mono ?_); rintro e w1 ⟨rfl, h1, hb1, hk1⟩; obtain ⟨hB, v, hbk, hown, hne⟩ := h1; rw [nums_length] at hown; have hlt : b < w1.heap.size := (Array.getElem?_eq_some_iff.1 hbk).1; have hw1 := hb1.size; have c1 : w1.cell? ⟨b, 1, none⟩ = some v := (by rw [Lib.cell_of_heap hbk]; rfl); have HK1 := Lib.hid hk1; clear hk1)
    | (at_builtin; (refine wpList_append_ownF _ rfl _ _ 93 rfl B 5 i0 (.int .u8 0) 1 1 Tryd.underlying93 hi hz0 hz1 hz2 rfl (by decide) _ _ _ rfl (hown.alloc _) ⟨w1.heap.size, 0, none⟩ 1 1 [.int .u8 c] rfl rfl (one_cell w1 c 5) (fun u hu => by simp at hu; subst hu; rfl) (by unfold maxLen; omega) (by omega) (by simp; omega) ?_; intro v1 w2 ho2 hg2 _; obtain ⟨A2, c2, rfl⟩ := ownF_slice ho2; have hbk2 : w2.heap[b]? = some (.cells #[.pointer (some ⟨b, 0, none⟩), v] 95 (0, 0)) := (hg2.block b (by simp; omega) (fun e => hne e.symm)).trans ((Below.heap_alloc w1 _ b hlt).trans hbk); have d1 : w2.cell? ⟨b, 1, none⟩ = some v := (by rw [Lib.cell_of_heap hbk2]; rfl); have f1 : w2.frozen? ⟨b, 1, none⟩ = false := Lib.frozen_of_heap hbk2 1; have Hb := Lib.hid hbk2; have hb2 := (hb1.alloc (Nat.le_trans hBw hw1) (.cells #[.int .u8 c] 5)).grown hg2 (by simp; omega) (fun k hk => (hown.lt k hk).1); have hk2 := Lib.hid ((HK1.out.alloc _).grown hg2 (Lib.ownsRowF_kind (hown.alloc _))); clear hbk hbk2)))
  go_ret
  refine ⟨⟨_, rfl⟩, Or.inr ?_, hb2.setCell (p := ⟨b, 1, none⟩) hB _, hk2.out.setCell ⟨b, 1, none⟩ rfl _⟩
  rw [nums_append]
  exact Lib.BuilderAtF.put hB Hb.out (by have e : (nums .u8 xs).length = xs.length := nums_length _ _; rw [List.length_append, e]; exact ho2) (by decide)
set_option maxHeartbeats 1000000 in
set_option maxRecDepth 100000 in
theorem writeStringK (B b : Nat) (xs : List Int) (s : ByteArray) (w : World) (h : BldF w B b xs) (hlen : xs.length + s.size ≤ 140737488355328) (hBw : B ≤ w.heap.size) :
    Calls Tryd.prog 72 #[.pointer (some ⟨b, 0, none⟩), .string s] w fun e w' => (∃ v, e = .returned v) ∧ BldF w' B b (xs ++ bytesOf s) ∧ Below B w w' ∧ Lib.OthersKept 5 (some b) w w' := by
  obtain ⟨i0, hi, hz0, hz1, hz2⟩ := info_parts info_u8
  have Hc := Lib.hid (fun W h => copyCheckK_any B b xs W h)
  have H := Lib.hid h
  clear h
  go_enter Tryd.func72, Tryd.ntmps72
  go_wp2_with (first
    | (go_at_call 79; (with_reducible refine (Hc.out _ H.out).mono ?_); rintro e w1 ⟨rfl, h1, hb1, hk1⟩; obtain ⟨hB, v, hbk, hown, hne⟩ := h1; rw [nums_length] at hown; have hlt : b < w1.heap.size := (Array.getElem?_eq_some_iff.1 hbk).1; have hw1 := hb1.size; have c1 : w1.cell? ⟨b, 1, none⟩ = some v := (by rw [Lib.cell_of_heap hbk]; rfl); have HK1 := Lib.hid hk1; clear hk1)
    | (at_builtin; (refine Lib.wpList_append_own_stringF _ rfl _ _ 93 9 rfl B 5 i0 Tryd.underlying93 Tryd.underlying9 hi hz0 hz1 hz2 _ _ _ rfl hown s rfl (by unfold maxLen; omega) (by omega) (by omega) ?_; intro v1 w2 ho2 hg2 _; obtain ⟨A2, c2, rfl⟩ := ownF_slice ho2; have hbk2 : w2.heap[b]? = some (.cells #[.pointer (some ⟨b, 0, none⟩), v] 95 (0, 0)) := (hg2.block b hlt (fun e => hne e.symm)).trans hbk; have d1 : w2.cell? ⟨b, 1, none⟩ = some v := (by rw [Lib.cell_of_heap hbk2]; rfl); have f1 : w2.frozen? ⟨b, 1, none⟩ = false := Lib.frozen_of_heap hbk2 1; have Hb := Lib.hid hbk2; have hb2 := hb1.grown hg2 (by omega) (fun k hk => (hown.lt k hk).1); have hk2 := Lib.hid (HK1.out.grown hg2 (Lib.ownsRowF_kind hown)); clear hbk hbk2)))
  go_ret2
  have e : nums .u8 (xs ++ bytesOf s) = nums .u8 xs ++ Lib.strCells s := by
    rw [nums_append]
    congr 1
    simp [nums, bytesOf, Lib.strCells]
  refine ⟨⟨_, rfl⟩, Or.inr ?_, hb2.setCell (p := ⟨b, 1, none⟩) hB _, hk2.out.setCell ⟨b, 1, none⟩ rfl _⟩
  rw [e]
  exact Lib.BuilderAtF.put hB Hb.out (by rw [List.length_append, nums_length, Lib.strCells_length]; exact ho2) (by decide)
end Go.Proofs.YtgippjhkimohlaaDoor
