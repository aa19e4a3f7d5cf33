/- Words on slices of bytes that the call itself makes: out of a text, grown by append, and back to a text. -/
import Derived.Test.YtgippjhkimohlaaDoorBase
set_option linter.unusedVariables false
set_option linter.unusedSimpArgs false
namespace Go.Proofs.YtgippjhkimohlaaDoor
open Go.RowKit Go.Proofs.YtgippjhkimohlaaDoorW.PrintWords Go.Proofs.YtgippjhkimohlaaDoorW.PrintLast
theorem info_u8 : (Tryd.prog.info? 5).map (fun i => (i.zero, i.size, i.bytes)) = some (some (.int .u8 0), 1, 1) := by kernel_rfl

/-- block g bears these bytes at its head, and each of them may be written -/
def Byt (w : World) (g : Nat) (xs : List Int) : Prop := ∃ cs e fr, w.heap[g]? = some (.cells cs e fr) ∧ (fr.1 = fr.2 ∨ xs.length ≤ fr.1) ∧ ∀ i, i < xs.length → cs[i]? = some (.int .u8 (xs.getD i 0))
section
variable {w w' : World} {g : Nat} {xs : List Int}
theorem Byt.lt (h : Byt w g xs) : g < w.heap.size := by
  obtain ⟨cs, e, fr, h, _⟩ := h
  exact (Array.getElem?_eq_some_iff.1 h).1
theorem Byt.cell (h : Byt w g xs) (i : Int) (h0 : 0 ≤ i) (h1 : i < xs.length) : w.cell? ⟨g, i.toNat, none⟩ = some (.int .u8 (rd xs i)) := by
  obtain ⟨cs, e, fr, h, _, hc⟩ := h
  rw [show w.cell? ⟨g, i.toNat, none⟩ = cs[i.toNat]? from by simp [World.cell?, h]]
  exact hc _ (by omega)
theorem Byt.frozen (h : Byt w g xs) (i : Int) (h0 : 0 ≤ i) (h1 : i < xs.length) : w.frozen? ⟨g, i.toNat, none⟩ = false := by
  obtain ⟨cs, e, ⟨lo, hi⟩, h, hf, _⟩ := h
  have : ¬ (lo ≤ i.toNat ∧ i.toNat < hi) := by
    rcases hf with hf | hf <;> simp at hf <;> omega
  simp only [World.frozen?, h]
  simpa [Bool.and_eq_true, decide_eq_true_eq] using this
theorem Byt.below (h : Byt w g xs) {B : Nat} (hb : Below B w w') (hg : g < B) : Byt w' g xs := by
  obtain ⟨cs, e, fr, h, hr⟩ := h
  exact ⟨cs, e, fr, (hb.block g hg).trans h, hr⟩
theorem Byt.after (h : Byt w g xs) (hb : Below w.heap.size w w') : Byt w' g xs := h.below hb h.lt
theorem Byt.drew (h : Byt w g xs) : Byt w.drew g xs := h
theorem Byt.alloc (h : Byt w g xs) (o : Obj) : Byt (w.alloc o) g xs := h.after (below_one _ _)
theorem Byt.set_ (h : Byt w g xs) (i : Int) (h0 : 0 ≤ i) (h1 : i < xs.length) (x : Int) : Byt (w.setCell ⟨g, i.toNat, none⟩ (.int .u8 x)) g (xs.set i.toNat x) := by
  obtain ⟨cs, e, fr, h, hf, hc⟩ := h
  refine ⟨cs.setIfInBounds i.toNat (.int .u8 x), e, fr, by simp [World.setCell, Array.getElem?_modify, h], by rw [List.length_set]; exact hf, fun j hj => ?_⟩
  rw [List.length_set] at hj
  have hcs : i.toNat < cs.size := by
    have := hc i.toNat (by omega)
    exact (Array.getElem?_eq_some_iff.1 this).1
  rw [Array.getElem?_setIfInBounds, List.getD_eq_getElem?_getD, List.getElem?_set]
  by_cases e : i.toNat = j
  · subst e
    simp [hcs, show i.toNat < xs.length by omega]
  · simp only [e, if_false]
    rw [hc j hj, List.getD_eq_getElem?_getD]
theorem Byt.text (h : Byt w g xs) {P : Program} {src dst e : TypeId} (hs : P.underlying src = some (.slice e)) (he : P.underlying e = some (.int .u8)) (hd : P.underlying dst = some .string) (cap : Nat) :
    (convert src dst (.slice (some ⟨g, 0, none⟩) xs.length cap)).run P w = .ok (.string (strOfNums xs)) w := by
  refine run_convert_bytes_arg w src e hs he g 0 xs.length cap xs rfl (fun i hi => ?_) dst hd
  have := h.cell (i : Int) (by omega) (by omega)
  simp only [Int.toNat_natCast] at this
  rw [Nat.zero_add, this]
  simp [rd]
end
theorem Byt.new (W : World) (e : TypeId) (s : ByteArray) : Byt (Lib.bytesWorld W e s) W.heap.size (bytesOf s) := by
  refine ⟨_, e, _, Lib.bytesWorld_at_new W e s, .inr ?_, fun i hi => ?_⟩
  · rcases Nat.lt_or_ge (Lib.bytesCells W e s).size (bytesOf s).length with h | h
    · exfalso
      rw [bytesOf_length] at h
      have := Lib.bytesWorld_cell W e s (Lib.bytesCells W e s).size h
      rw [show (Lib.bytesWorld W e s).cell? ⟨W.heap.size, (Lib.bytesCells W e s).size, none⟩ = (Lib.bytesCells W e s)[(Lib.bytesCells W e s).size]? from by simp [World.cell?, Lib.bytesWorld_at_new]] at this
      simp at this
    · exact h
  · rw [bytesOf_length] at hi
    have := Lib.bytesWorld_cell W e s i hi
    rw [show (Lib.bytesWorld W e s).cell? ⟨W.heap.size, i, none⟩ = (Lib.bytesCells W e s)[i]? from by simp [World.cell?, Lib.bytesWorld_at_new]] at this
    rw [this]
    have h' : i < s.data.toList.length := by rw [data_length]; exact hi
    simp [bytesOf, List.getD_eq_getElem?_getD, List.getElem?_eq_getElem h']

theorem strOfNums_bytesOf (s : ByteArray) : strOfNums (bytesOf s) = s := by
  obtain ⟨⟨l⟩⟩ := s
  simp only [strOfNums, bytesOf, List.map_map]
  congr 2
  rw [List.map_congr_left (g := id) (fun b _ => by simp)]
  simp
theorem bt_strOfNums (xs : List Int) (i : Int) (h0 : 0 ≤ i) (hr : ∀ x ∈ xs, 0 ≤ x ∧ x ≤ 255) : bt (strOfNums xs) i = rd xs i := by
  unfold bt rd
  split
  · rename_i h
    rw [strOfNums_size] at h
    have hx := hr xs[i.toNat] (List.getElem_mem h)
    have : (strOfNums xs)[i.toNat]'(by rw [strOfNums_size]; exact h) = UInt8.ofNat (xs[i.toNat]).toNat := by
      show (strOfNums xs).data[i.toNat]'_ = _
      simp [strOfNums]
    rw [this, List.getD_eq_getElem?_getD, List.getElem?_eq_getElem h]
    simp
    omega
  · rename_i h
    rw [strOfNums_size] at h
    rw [List.getD_eq_getElem?_getD, List.getElem?_eq_none (by omega)]
    rfl
theorem strOfNums_inj {xs ys : List Int} (hx : ∀ x ∈ xs, 0 ≤ x ∧ x ≤ 255) (hy : ∀ x ∈ ys, 0 ≤ x ∧ x ≤ 255) (h : strOfNums xs = strOfNums ys) : xs = ys := by
  refine ext_rd ?_ fun i h0 h1 => ?_
  · rw [← strOfNums_size, ← strOfNums_size ys, h]
  · rw [← bt_strOfNums xs i h0 hx, ← bt_strOfNums ys i h0 hy, h]
theorem bytesOf_strOfNums (xs : List Int) (hr : ∀ x ∈ xs, 0 ≤ x ∧ x ≤ 255) : bytesOf (strOfNums xs) = xs := by
  refine ext_rd (by rw [bytesOf_length, strOfNums_size]) fun i h0 h1 => ?_
  rw [rd_bytesOf, bt_strOfNums xs i h0 hr]
theorem mem_bytesOf {s : ByteArray} {x : Int} (h : x ∈ bytesOf s) : 0 ≤ x ∧ x ≤ 255 := by
  unfold bytesOf at h
  obtain ⟨b, _, rfl⟩ := List.mem_map.1 h
  have := b.toNat_lt
  omega
theorem strOfNums_append (a b : List Int) : strOfNums a ++ strOfNums b = strOfNums (a ++ b) := by
  apply ByteArray.ext
  simp [strOfNums]
end Go.Proofs.YtgippjhkimohlaaDoor
