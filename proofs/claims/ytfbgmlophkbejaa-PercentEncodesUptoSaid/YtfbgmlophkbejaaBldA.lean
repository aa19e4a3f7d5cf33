/- A strings.Builder of the call's own: copyCheck, WriteByte, WriteString, String. -/
import Derived.Test.YtfbgmlophkbejaaBase
import Derived.Test.YtfbgmlophkbejaaBase3
import Derived.Test.YtfbgmlophkbejaaShelf
set_option linter.unusedVariables false
set_option linter.unusedSimpArgs false
namespace Go.Proofs.Ytfbgmlophkbejaa
open Go.RowKit Go.Proofs.YtfbgmlophkbejaaW.PrintWords Go.Proofs.YtfbgmlophkbejaaW.PrintLast
theorem sizeBld : (Try.prog.info? 60).map (·.size) = some 2 := by kernel_rfl
theorem liesBld : liesAt Try.prog Try.prog.depth 60 (2 / Try.prog.cellsOf 60) 0 60 1 = true := by kernel_rfl
/-- the builder at block b holds these bytes -/
def Bld (w : World) (B b : Nat) (xs : List Int) : Prop := Lib.IsBuilder 60 5 B b (nums .u8 xs) w
theorem Bld.new (w : World) (B : Nat) (hB : B ≤ w.heap.size) : Bld (w.alloc (.cells #[.pointer none, .slice none 0 0] 60)) B w.heap.size [] :=
  Or.inl ⟨hB, .slice none 0 0, heap_alloc_new w _, own_nil _ _ _ _, by simp [Value.ownBlock]⟩
theorem Bld.at_new {w : World} {B b : Nat} (hb : b = w.heap.size) (hB : B ≤ b) : Bld (w.alloc (.cells #[.pointer none, .slice none 0 0] 60)) B b [] := by subst hb; exact Bld.new w B hB
theorem Bld.after {w w' : World} {B b : Nat} {xs : List Int} (h : Bld w B b xs) (hb : Below w.heap.size w w') : Bld w' B b xs := by
  have key : ∀ p, Lib.BuilderAt 60 5 B b p (nums .u8 xs) w → Lib.BuilderAt 60 5 B b p (nums .u8 xs) w' := fun p h => by
    have hlt := h.lt
    obtain ⟨hB, v, hv, ho, hne⟩ := h
    exact ⟨hB, v, (hb.block b hlt).trans hv, pw_own_below ho hb, hne⟩
  rcases h with h | h
  · exact Or.inl (key _ h)
  · exact Or.inr (key _ h)
theorem Bld.lt {w : World} {B b : Nat} {xs : List Int} (h : Bld w B b xs) : b < w.heap.size := by
  rcases h with h | h <;> exact h.lt
theorem Bld.base {w : World} {B b : Nat} {xs : List Int} (h : Bld w B b xs) : B ≤ b := by
  rcases h with h | h <;> exact h.1
theorem copyCheck_any (B b : Nat) (xs : List Int) (w : World) (h : Bld w B b xs) :
    Calls Try.prog 41 #[.pointer (some ⟨b, 0, none⟩)] w fun e w' => e = .returned (.tuple #[]) ∧ Lib.BuilderAt 60 5 B b (.pointer (some ⟨b, 0, none⟩)) (nums .u8 xs) w' ∧ Below B w w' ∧ KeepBut w w' b none := by
  obtain ⟨j, hj, hjs⟩ := Option.map_eq_some_iff.1 sizeBld
  rcases h with h | h
  · have h0 := h.cell0
    have hsh := h.shape
    have hfz := h.frozen0
    have H := Lib.hid h
    clear h
    go_enter Try.func41, Try.ntmps41
    go_wp2
    rw [Lib.run_to_unsafe w ⟨b, 0, none⟩ Try.underlying58 Try.underlying73 hj (by rw [hjs]; decide) hsh (Nat.zero_lt_succ 1)]
    simp only [Result.andThen]
    rw [Oper.upon_value]
    go_wp2
    rw [run_callFunc_extern Try.func45 (by kernel_rfl) (by kernel_rfl) (by kernel_rfl) (e := Extern.AbiNoEscape.same) (by kernel_rfl)]
    rw [Lib.run_noEscape]
    simp only [Result.andThen]
    rw [Oper.upon_value]
    go_wp2
    rw [Lib.run_from_unsafe w ⟨b, 0, none⟩ Try.underlying73 Try.underlying58 hj hsh liesBld]
    simp only [Result.andThen]
    rw [Oper.upon_value]
    go_wp2
    go_end0
    exact ⟨rfl, H.out.used _, (Below.refl B w).setCell (p := ⟨b, 0, none⟩) H.out.1 _, (KeepBut.refl _ _ _).set_ 0 _⟩
  · have h0 := h.cell0
    have H := Lib.hid h
    clear h
    go_enter Try.func41, Try.ntmps41
    go_wp2
    rw [Lib.run_neq_ptr_same w _ Try.underlying58 hj]
    go_wp2
    go_end0
    exact ⟨rfl, H.out, Below.refl B _, KeepBut.refl _ _ _⟩
set_option maxHeartbeats 1000000 in
theorem writeByte_any (B b : Nat) (xs : List Int) (c : Int) (w : World) (h : Bld w B b xs) (hlen : xs.length + 1 ≤ 140737488355328) (hBw : B ≤ w.heap.size) :
    Calls Try.prog 35 #[.pointer (some ⟨b, 0, none⟩), .int .u8 c] w fun e w' => e = .returned .nilIface ∧ Bld w' B b (xs ++ [c]) ∧ Below B w w' := by
  have Hc := Lib.hid (fun W h => copyCheck_any B b xs W h)
  have H := Lib.hid h
  clear h
  go_enter Try.func35, Try.ntmps35
  go_wp2_with (first
    | (go_at_call 41; (with_reducible refine (Hc.out _ H.out).mono ?_); rintro e w1 ⟨rfl, h1, hb1, hk1⟩; obtain ⟨hB, v, hbk, hown, hne⟩ := h1; rw [nums_length] at hown; have hlt : b < w1.heap.size := (Array.getElem?_eq_some_iff.1 hbk).1; have c1 : w1.cell? ⟨b, 1, none⟩ = some v := (by rw [Lib.cell_of_heap hbk]; rfl))
    | (at_builtin; (refine print_append_num (w0 := w) (W := w1) B rfl (.tmp 11) (.tmp 13) 49 5 .u8 1 rfl Try.underlying49 info_u8 (by decide) _ xs _ rfl rfl hown hb1 (by have := hb1.size; omega) (by omega) ?_; intro v1 w2 ho2 hb2 hg2 hat2; rw [List.length_append] at ho2; obtain ⟨ao2, cp2, rfl⟩ := own_slice ho2; have hbk2 : w2.heap[b]? = some (.cells #[.pointer (some ⟨b, 0, none⟩), v] 60 (0, 0)) := (hg2.block b hlt (fun e => hne e.symm)).trans hbk; have d1 : w2.cell? ⟨b, 1, none⟩ = some v := (by rw [Lib.cell_of_heap hbk2]; rfl); have f1 : w2.frozen? ⟨b, 1, none⟩ = false := Lib.frozen_of_heap hbk2 1; have Hb := Lib.hid hbk2; clear hbk hbk2)))
  go_ret
  rw [← List.length_append] at ho2
  refine ⟨rfl, Or.inr (Lib.BuilderAt.put hB Hb.out (by rw [nums_length, List.length_append] at *; exact ho2) (by decide)), hb2.setCell (p := ⟨b, 1, none⟩) hB _⟩
set_option maxHeartbeats 1000000 in
theorem writeString_any (B b : Nat) (xs : List Int) (s : ByteArray) (w : World) (h : Bld w B b xs) (hlen : xs.length + s.size ≤ 140737488355328) (hBw : B ≤ w.heap.size) :
    Calls Try.prog 33 #[.pointer (some ⟨b, 0, none⟩), .string s] w fun e w' => e = .returned (.tuple #[.int .i64 s.size, .nilIface]) ∧ Bld w' B b (xs ++ bytesOf s) ∧ Below B w w' := by
  obtain ⟨i0, hi, hz0, hz1, hz2⟩ := info_parts info_u8
  have Hc := Lib.hid (fun W h => copyCheck_any B b xs W h)
  have H := Lib.hid h
  clear h
  go_enter Try.func33, Try.ntmps33
  go_wp2_with (first
    | (go_at_call 41; (with_reducible refine (Hc.out _ H.out).mono ?_); rintro e w1 ⟨rfl, h1, hb1, hk1⟩; obtain ⟨hB, v, hbk, hown, hne⟩ := h1; rw [nums_length] at hown; have hlt : b < w1.heap.size := (Array.getElem?_eq_some_iff.1 hbk).1; have c1 : w1.cell? ⟨b, 1, none⟩ = some v := (by rw [Lib.cell_of_heap hbk]; rfl))
    | (at_builtin; (refine Lib.wpList_append_own_string _ rfl _ _ 49 9 rfl B 5 i0 Try.underlying49 Try.underlying9 hi hz0 hz1 hz2 _ _ _ rfl hown s rfl (by unfold maxLen; omega) (by omega) (by have := hb1.size; omega) ?_; intro v1 w2 ho2 hg2 hat2; obtain ⟨ao2, cp2, rfl⟩ := own_slice ho2; have hbk2 : w2.heap[b]? = some (.cells #[.pointer (some ⟨b, 0, none⟩), v] 60 (0, 0)) := (hg2.block b hlt (fun e => hne e.symm)).trans hbk; have d1 : w2.cell? ⟨b, 1, none⟩ = some v := (by rw [Lib.cell_of_heap hbk2]; rfl); have f1 : w2.frozen? ⟨b, 1, none⟩ = false := Lib.frozen_of_heap hbk2 1; have Hb : Hid (w2.heap[b]? = some (.cells #[.pointer (some ⟨b, 0, none⟩), v] 60 (0, 0))) := Lib.hid hbk2; clear hbk hbk2)))
  go_ret2
  have e : nums .u8 (xs ++ bytesOf s) = nums .u8 xs ++ Lib.strCells s := by
    rw [nums_append]
    congr 1
    simp [nums, bytesOf, Lib.strCells]
  refine ⟨rfl, Or.inr ?_, (hb1.grown hg2 (by have := hb1.size; omega) (fun k hk => (hown.lt k hk).1)).setCell (p := ⟨b, 1, none⟩) hB _⟩
  rw [e]
  exact Lib.BuilderAt.put hB Hb.out (by rw [List.length_append, nums_length, Lib.strCells_length]; exact ho2) (by decide)
theorem byteCells_nums (xs : List Int) (hr : ∀ x ∈ xs, 0 ≤ x ∧ x ≤ 255) : Lib.byteCells (xs.map fun x => UInt8.ofNat x.toNat) = nums .u8 xs := by
  unfold Lib.byteCells nums
  rw [List.map_map]
  refine List.map_congr_left fun x hx => ?_
  have := hr x hx
  simp only [Function.comp_apply, Value.int.injEq, true_and]
  have e : (UInt8.ofNat x.toNat).toNat = x.toNat := by
    rw [UInt8.toNat_ofNat']
    omega
  rw [e]
  omega
theorem string_any (B b : Nat) (xs : List Int) (w : World) (h : Bld w B b xs) (hr : ∀ x ∈ xs, 0 ≤ x ∧ x ≤ 255) (hBw : B ≤ w.heap.size) :
    Calls Try.prog 36 #[.pointer (some ⟨b, 0, none⟩)] w fun e w' => e = .returned (.string (strOfNums xs)) ∧ Below B w w' := by
  unfold Bld at h
  rw [← byteCells_nums xs hr] at h
  exact Try.Builder_String_any B b _ w h hBw
end Go.Proofs.Ytfbgmlophkbejaa
