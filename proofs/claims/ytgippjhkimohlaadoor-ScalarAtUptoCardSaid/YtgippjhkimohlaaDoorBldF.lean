/- A strings.Builder of the call's own, runes written into it: copyCheck, WriteRune, String. -/
import Derived.Test.YtgippjhkimohlaaDoorScaE
import Derived.Test.YtgippjhkimohlaaDoorShelf
import Derived.Lib.FrozenHead
import Derived.Lib.RuneBytes
set_option linter.unusedVariables false
set_option linter.unusedSimpArgs false
namespace Go.Proofs.YtgippjhkimohlaaDoor
open Go.RowKit Go.Proofs.YtgippjhkimohlaaDoorW.PrintWords Go.Proofs.YtgippjhkimohlaaDoorW.PrintLast
theorem sizeBld : (Tryd.prog.info? 95).map (·.size) = some 2 := by kernel_rfl
theorem liesBld : liesAt Tryd.prog Tryd.prog.depth 95 (2 / Tryd.prog.cellsOf 95) 0 95 1 = true := by kernel_rfl
theorem ownF_below {w w' : World} {base : Nat} {e : TypeId} {size n : Nat} {v : Value} {xs : List Value} (h : w.ownsRowF base e size v n xs) (hb : Below w.heap.size w w') : w'.ownsRowF base e size v n xs :=
  h.kept (row := none) ⟨hb.os, hb.tape, hb.output, hb.size, fun i hi _ => hb.block i hi⟩ (by cases v.ownBlock <;> simp)
/-- the builder at block b holds these bytes -/
def BldF (w : World) (B b : Nat) (xs : List Int) : Prop := Lib.IsBuilderF 95 5 B b (nums .u8 xs) w
theorem BldF.new (w : World) (B : Nat) (hB : B ≤ w.heap.size) : BldF (w.alloc (.cells #[.pointer none, .slice none 0 0] 95)) B w.heap.size [] :=
  Or.inl (Lib.BuilderAtF.of ⟨hB, .slice none 0 0, heap_alloc_new w _, own_nil _ _ _ _, by simp [Value.ownBlock]⟩)
theorem BldF.after {w w' : World} {B b : Nat} {xs : List Int} (h : BldF w B b xs) (hb : Below w.heap.size w w') : BldF w' B b xs := by
  have key : ∀ p, Lib.BuilderAtF 95 5 B b p (nums .u8 xs) w → Lib.BuilderAtF 95 5 B b p (nums .u8 xs) w' := fun p h => by
    have hlt := h.lt
    obtain ⟨hB, v, hv, ho, hne⟩ := h
    exact ⟨hB, v, (hb.block b hlt).trans hv, ownF_below ho hb, hne⟩
  rcases h with h | h
  · exact Or.inl (key _ h)
  · exact Or.inr (key _ h)
theorem BldF.lt {w : World} {B b : Nat} {xs : List Int} (h : BldF w B b xs) : b < w.heap.size := by
  rcases h with h | h <;> exact h.lt
set_option maxRecDepth 100000 in
theorem copyCheckF_any (B b : Nat) (xs : List Int) (w : World) (h : BldF w B b xs) :
    Calls Tryd.prog 79 #[.pointer (some ⟨b, 0, none⟩)] w fun e w' => e = .returned (.tuple #[]) ∧ Lib.BuilderAtF 95 5 B b (.pointer (some ⟨b, 0, none⟩)) (nums .u8 xs) w' ∧ Below B w w' ∧ KeepBut w w' b none := by
  obtain ⟨j, hj, hjs⟩ := Option.map_eq_some_iff.1 sizeBld
  rcases h with h | h
  · have h0 := h.cell0
    have hsh := h.shape
    have hfz := h.frozen0
    have H := Lib.hid h
    clear h
    go_enter Tryd.func79, Tryd.ntmps79
    go_wp2
    rw [Lib.run_to_unsafe w ⟨b, 0, none⟩ Tryd.underlying92 Tryd.underlying122 hj (by rw [hjs]; decide) hsh (Nat.zero_lt_succ 1)]
    simp only [Result.andThen]
    rw [Oper.upon_value]
    go_wp2
    rw [run_callFunc_extern Tryd.func84 (by kernel_rfl) (by kernel_rfl) (by kernel_rfl) (e := Extern.AbiNoEscape.same) (by kernel_rfl)]
    rw [Lib.run_noEscape]
    simp only [Result.andThen]
    rw [Oper.upon_value]
    go_wp2
    rw [Lib.run_from_unsafe w ⟨b, 0, none⟩ Tryd.underlying122 Tryd.underlying92 hj hsh liesBld]
    simp only [Result.andThen]
    rw [Oper.upon_value]
    go_wp2
    go_end0
    exact ⟨rfl, H.out.used _, (Below.refl B w).setCell (p := ⟨b, 0, none⟩) H.out.1 _, (KeepBut.refl _ _ _).set_ 0 _⟩
  · have h0 := h.cell0
    have H := Lib.hid h
    clear h
    go_enter Tryd.func79, Tryd.ntmps79
    go_wp2
    rw [Lib.run_neq_ptr_same w _ Tryd.underlying92 hj]
    go_wp2
    go_end0
    exact ⟨rfl, H.out, Below.refl B _, KeepBut.refl _ _ _⟩
theorem runeCells_enc (r : Int) (h : scal r = true) : Lib.runeCells r = nums .u8 (encB r) := by
  have hs := (scal_iff r).1 h
  unfold Lib.runeCells nums
  congr 1
  unfold encB
  by_cases c1 : r < 128
  · rw [if_pos c1, Lib.encodeRuneZ_one (by omega) (by omega)]
  · rw [if_neg c1]
    by_cases c2 : r < 2048
    · rw [if_pos c2, Lib.encodeRuneZ_two (by omega) (by omega)]
    · rw [if_neg c2]
      by_cases c3 : r < 65536
      · rw [if_pos c3, Lib.encodeRuneZ_three (by omega)]
      · rw [if_neg c3, Lib.encodeRuneZ_four (by omega) (by omega)]
theorem ownF_slice {w : World} {base n : Nat} {e : TypeId} {size : Nat} {v : Value} {xs : List Value} (h : w.ownsRowF base e size v n xs) : ∃ A c, v = .slice A n c := by
  rcases h.2 with ⟨rfl, rfl⟩ | ⟨g, cap, cur, fz, rfl, _⟩
  · exact ⟨none, 0, rfl⟩
  · exact ⟨_, cap, rfl⟩
set_option maxRecDepth 100000 in
set_option maxHeartbeats 1000000 in
theorem writeRune_any (B b : Nat) (xs : List Int) (r : Int) (hr : scal r = true) (w : World) (h : BldF w B b xs) (hlen : xs.length + 4 ≤ 140737488355328) (hBw : B ≤ w.heap.size) :
    Calls Tryd.prog 63 #[.pointer (some ⟨b, 0, none⟩), .int .i32 r] w fun e w' => (∃ v, e = .returned v) ∧ BldF w' B b (xs ++ encB r) ∧ Below B w w' := by
  have hs := (scal_iff r).1 hr
  have hc := runeCells_enc r hr
  have hl := encB_len4 r
  have Hc := Lib.hid (fun W h => copyCheckF_any B b xs W h)
  have Ha := Lib.hid (fun v W h hB => Tryd.utf8_AppendRune_row B v xs.length (nums .u8 xs) r (by omega) (by omega) W h hlen hB)
  simp only [hc] at Ha
  have H := Lib.hid h
  clear h
  go_enter Tryd.func63, Tryd.ntmps63
  go_wp2_with (first
    | (go_at_call 79; (with_reducible refine (Hc.out _ H.out).mono ?_); rintro e w1 ⟨rfl, h1, hb1, hk1⟩; obtain ⟨hB, v, hbk, hown, hne⟩ := h1; rw [nums_length] at hown; have hz1 := hb1.size; have hlt : b < w1.heap.size := (Array.getElem?_eq_some_iff.1 hbk).1; have hvl := (fun h => World.ownsRowF.lt h) hown; obtain ⟨A0, c0, rfl⟩ := ownF_slice hown; have c1 : w1.cell? ⟨b, 1, none⟩ = some (.slice A0 xs.length c0) := (by rw [Lib.cell_of_heap hbk]; rfl))
    | (go_at_call 80; refine (Ha.out _ _ hown (by omega)).mono ?_; rintro e w2 ⟨v2, rfl, ho2, o2, hg2⟩; obtain ⟨A2, c2, rfl⟩ := ownF_slice ho2; have hz2 : (w1.alloc o2).heap.size = w1.heap.size + 1 := (by simp); have hbk2 : w2.heap[b]? = some (.cells #[.pointer (some ⟨b, 0, none⟩), .slice A0 xs.length c0] 95 (0, 0)) := (hg2.block b (by omega) (fun e => hne e.symm)).trans ((Below.heap_alloc w1 o2 b hlt).trans hbk); have d1 : w2.cell? ⟨b, 1, none⟩ = some (.slice A0 xs.length c0) := (by rw [Lib.cell_of_heap hbk2]; rfl); have f1 : w2.frozen? ⟨b, 1, none⟩ = false := Lib.frozen_of_heap hbk2 1; have Hb := Lib.hid hbk2; have hb2 := (hb1.alloc (Nat.le_trans hBw hz1) o2).grown hg2 (by omega) (fun k hk => (hvl k hk).1); clear hbk hbk2))
  go_ret2
  refine ⟨⟨_, rfl⟩, Or.inr ?_, hb2.setCell (p := ⟨b, 1, none⟩) hB _⟩
  rw [nums_append]
  exact Lib.BuilderAtF.put hB Hb.out (by have e : (nums .u8 xs).length = xs.length := nums_length _ _; rw [List.length_append, e]; exact ho2) (by decide)
/-- String of a builder -/
theorem stringF_any (B b : Nat) (xs : List Int) (w : World) (h : BldF w B b xs) (hr : ∀ x ∈ xs, 0 ≤ x ∧ x ≤ 255) (hBw : B ≤ w.heap.size) :
    Calls Tryd.prog 64 #[.pointer (some ⟨b, 0, none⟩)] w fun e w' => e = .returned (.string (strOfNums xs)) ∧ Below B w w' := by
  have e : Lib.byteCells (xs.map fun x => UInt8.ofNat x.toNat) = nums .u8 xs := by
    unfold Lib.byteCells nums
    rw [List.map_map]
    refine List.map_congr_left fun x hx => ?_
    have := hr x hx
    simp only [Function.comp_apply, Value.int.injEq, true_and]
    have e : (UInt8.ofNat x.toNat).toNat = x.toNat := by
      rw [UInt8.toNat_ofNat']
      omega
    rw [e]
    omega
  unfold BldF at h
  rw [← e] at h
  exact (Tryd.Builder_String_any_f B b _ w h hBw).mono fun e w' hh => ⟨hh.1, hh.2.2⟩
end Go.Proofs.YtgippjhkimohlaaDoor
