/- Percent: decoding: the items of a text; the closures of Decode, Coded, Strays; these three; the document's Decode. -/
import Derived.Test.YtfbgmlophkbejaaPctC
import Derived.Test.YtfbgmlophkbejaaBase3
set_option linter.unusedVariables false
set_option linter.unusedSimpArgs false
namespace Go.Proofs.Ytfbgmlophkbejaa
open Go.RowKit Go.Proofs.YtfbgmlophkbejaaW.PrintWords Go.Proofs.YtfbgmlophkbejaaW.PrintLast
theorem nxtC_gt (s : ByteArray) (p : Int) : p < nxtC s p := by unfold nxtC; split <;> omega
theorem isC_room {s : ByteArray} {p : Int} (h : isC s p = true) : p + 2 < s.size := by
  unfold isC at h
  simp only [Bool.and_eq_true, decide_eq_true_eq] at h
  exact h.1.1.1
theorem nxtC_le (s : ByteArray) (p : Int) (h : p < s.size) : nxtC s p ≤ s.size := by
  unfold nxtC
  split
  · have := isC_room ‹_›; omega
  · omega
/-- the places where the items of a text begin, from p on -/
def itemsF (s : ByteArray) (p : Int) : List Int := if h : p < s.size then p :: itemsF s (nxtC s p) else []
termination_by (s.size - p).toNat
decreasing_by have := nxtC_gt s p; omega
theorem itemsF_go {s : ByteArray} {p : Int} (h : p < s.size) : itemsF s p = p :: itemsF s (nxtC s p) := by rw [itemsF, dif_pos h]
theorem itemsF_end (s : ByteArray) : itemsF s s.size = [] := by rw [itemsF, dif_neg (by omega)]
theorem itemsF_len (s : ByteArray) (n : Nat) : ∀ p : Int, 0 ≤ p → p ≤ s.size → (s.size - p).toNat = n → ((itemsF s p).length : Int) ≤ s.size - p := by
  induction n using Nat.strongRecOn with
  | _ n ih =>
    intro p h0 h1 hn
    by_cases h : p < s.size
    · have hg := nxtC_gt s p
      have hl := nxtC_le s p h
      have := ih _ (by omega) (nxtC s p) (by omega) hl rfl
      rw [itemsF_go h, List.length_cons]
      omega
    · obtain rfl : p = s.size := by omega
      rw [itemsF_end]
      simp
/-- what a text says, decoded -/
def decL (s : ByteArray) : List Int := (itemsF s 0).map (byteC s)
def decS (s : ByteArray) : ByteArray := strOfNums (decL s)
/-- how many coded bytes there are from p on -/
def cntF (s : ByteArray) (p : Int) : Nat := ((itemsF s p).filter fun p => isC s p).length
/-- a stray sign stands at p -/
def isS (s : ByteArray) (p : Int) : Bool := !isC s p && (bt s p == 37)
def strF (s : ByteArray) (p : Int) : List Int := (itemsF s p).filter (isS s)
theorem cntF_end (s : ByteArray) : cntF s s.size = 0 := by unfold cntF; rw [itemsF_end]; rfl
theorem strF_end (s : ByteArray) : strF s s.size = [] := by unfold strF; rw [itemsF_end]; rfl
theorem cntF_go {s : ByteArray} {p : Int} (h : p < s.size) : cntF s p = (if isC s p = true then 1 else 0) + cntF s (nxtC s p) := by
  unfold cntF; rw [itemsF_go h, List.filter_cons]; split <;> simp <;> omega
theorem strF_go {s : ByteArray} {p : Int} (h : p < s.size) : strF s p = if isS s p = true then p :: strF s (nxtC s p) else strF s (nxtC s p) := by
  unfold strF; rw [itemsF_go h, List.filter_cons]
theorem cntF_le (s : ByteArray) (p : Int) (h0 : 0 ≤ p) (h1 : p ≤ s.size) : (cntF s p : Int) ≤ s.size - p := by
  have := itemsF_len s _ p h0 h1 rfl
  have := List.length_filter_le (fun p => isC s p) (itemsF s p)
  unfold cntF
  omega
theorem strF_le (s : ByteArray) (p : Int) (h0 : 0 ≤ p) (h1 : p ≤ s.size) : ((strF s p).length : Int) ≤ s.size - p := by
  have := itemsF_len s _ p h0 h1 rfl
  have := List.length_filter_le (isS s) (itemsF s p)
  unfold strF
  omega
/-- the cell g holds a slice of the call's own that reads xs -/
def CellRow (w : World) (g : Nat) (t e : TypeId) (k : IntKind) (xs : List Int) : Prop := ∃ v, Blk w g t #[v] ∧ w.ownsRow (g + 1) e 1 v xs.length (nums k xs)
theorem CellRow.after {w w' : World} {g : Nat} {t e : TypeId} {k : IntKind} {xs : List Int} (h : CellRow w g t e k xs) (hb : Below w.heap.size w w') : CellRow w' g t e k xs := by
  obtain ⟨v, h1, h2⟩ := h
  exact ⟨v, h1.after hb, pw_own_below h2 hb⟩
theorem CellRow.put {w : World} {g : Nat} {t e : TypeId} {k : IntKind} {xs : List Int} {v v1 : Value} (h : Blk w g t #[v]) (ho : w.ownsRow (g + 1) e 1 v1 xs.length (nums k xs)) : CellRow (w.setCell ⟨g, 0, none⟩ v1) g t e k xs :=
  ⟨v1, h.set_ 0 v1, own_setCell ho (fun he => by have := own_base ho g he.symm; omega) v1⟩
theorem info_int : (Try.prog.info? 3).map (fun i => (i.zero, i.size, i.bytes)) = some (some (.int .i64 0), 1, 8) := by kernel_rfl
theorem dec1_any (p b : Int) (c : Bool) (g : Nat) (w : World) (xs : List Int) (h : CellRow w g 49 5 .u8 xs) (hl : xs.length + 1 ≤ 140737488355328) :
    Calls Try.prog 27 #[.int .i64 p, .int .u8 b, .bool c, .pointer (some ⟨g, 0, none⟩)] w fun e w' => e = .returned (.tuple #[]) ∧ CellRow w' g 49 5 .u8 (xs ++ [b]) ∧ Below g w w' := by
  obtain ⟨v, hb, ho⟩ := h
  have hlt := hb.lt
  have c0 : w.cell? ⟨g, 0, none⟩ = some v := hb.cell 0
  go_enter Try.func27, Try.ntmps27
  go_wp2_with (at_builtin; refine print_append_num (w0 := w) (W := w) (g + 1) rfl (.tmp 7) (.tmp 9) 49 5 .u8 1 rfl Try.underlying49 info_u8 (by decide) _ xs _ rfl rfl ho (Below.refl _ _) (by omega) (by omega) ?_; intro v1 w1 ho1 hb1 hg1 hat1; rw [List.length_append] at ho1; obtain ⟨ao1, cp1, rfl⟩ := own_slice ho1; have hb2 := hb.below hb1 (by omega); have c1 : w1.cell? ⟨g, 0, none⟩ = some v := hb2.cell 0; have c2 := hb2.frozen 0)
  go_end0
  exact ⟨rfl, CellRow.put hb2 (by rw [List.length_append]; exact ho1), Below.setCell (p := ⟨g, 0, none⟩) (hb1.mono (Nat.le_succ g)) (Nat.le_refl g) _⟩
theorem str1_any (p b : Int) (c : Bool) (g : Nat) (w : World) (xs : List Int) (h : CellRow w g 22 3 .i64 xs) (hl : (xs.length + 1) * 8 ≤ 140737488355328) :
    Calls Try.prog 29 #[.int .i64 p, .int .u8 b, .bool c, .pointer (some ⟨g, 0, none⟩)] w fun e w' => e = .returned (.tuple #[]) ∧ CellRow w' g 22 3 .i64 (xs ++ if (!c && (b == 37)) = true then [p] else []) ∧ Below g w w' := by
  by_cases hq : (!c && (b == 37)) = true
  · rw [if_pos hq]
    simp only [Bool.and_eq_true, Bool.not_eq_true'] at hq
    obtain ⟨rfl, hq⟩ := hq
    obtain ⟨v, hb, ho⟩ := h
    have hlt := hb.lt
    have c0 : w.cell? ⟨g, 0, none⟩ = some v := hb.cell 0
    go_enter Try.func29, Try.ntmps29
    go_wp2_with (at_builtin; refine print_append_num (w0 := w) (W := w) (g + 1) rfl (.tmp 13) (.tmp 15) 22 3 .i64 8 rfl Try.underlying22 info_int (by decide) _ xs _ rfl rfl ho (Below.refl _ _) (by omega) (by omega) ?_; intro v1 w1 ho1 hb1 hg1 hat1; rw [List.length_append] at ho1; obtain ⟨ao1, cp1, rfl⟩ := own_slice ho1; have hb2 := hb.below hb1 (by omega); have c1 : w1.cell? ⟨g, 0, none⟩ = some v := hb2.cell 0; have c2 := hb2.frozen 0)
    go_end0
    exact ⟨rfl, CellRow.put hb2 (by rw [List.length_append]; exact ho1), Below.setCell (p := ⟨g, 0, none⟩) (hb1.mono (Nat.le_succ g)) (Nat.le_refl g) _⟩
  · rw [if_neg hq, List.append_nil]
    have H := Lib.hid h
    clear h
    cases c
    · have hb37 : (b == 37) = false := by simpa using hq
      clear hq
      go_enter Try.func29, Try.ntmps29
      go_wp2
      go_end0
      exact ⟨rfl, H.out, Below.refl _ _⟩
    · clear hq
      go_enter Try.func29, Try.ntmps29
      go_wp2
      go_end0
      exact ⟨rfl, H.out, Below.refl _ _⟩
def cntUp (c : Bool) (n : Nat) : Nat := (if c = true then 1 else 0) + n
theorem cod1_any (p b : Int) (c : Bool) (g : Nat) (w : World) (n : Nat) (h : Blk w g 3 #[.int .i64 (n : Int)]) (hl : n + 1 ≤ 140737488355328) :
    Calls Try.prog 28 #[.int .i64 p, .int .u8 b, .bool c, .pointer (some ⟨g, 0, none⟩)] w fun e w' => e = .returned (.tuple #[]) ∧ Blk w' g 3 #[.int .i64 ((cntUp c n : Nat) : Int)] ∧ Below g w w' := by
  have c0 : w.cell? ⟨g, 0, none⟩ = some (.int .i64 (n : Int)) := h.cell 0
  have c1 := h.frozen 0
  have H := Lib.hid h
  clear h
  cases c
  · go_enter Try.func28, Try.ntmps28
    go_wp2
    go_end0
    exact ⟨rfl, by rw [show cntUp false n = n from Nat.zero_add n]; exact H.out, Below.refl _ _⟩
  · go_enter Try.func28, Try.ntmps28
    go_wp2
    go_end0
    refine ⟨rfl, ?_, Below.setCell (p := ⟨g, 0, none⟩) (Below.refl _ _) (Nat.le_refl g) _⟩
    have := H.out.set_ 0 (.int .i64 ((n : Int) + 1))
    rw [show ((cntUp true n : Nat) : Int) = (n : Int) + 1 by unfold cntUp; simp; omega]
    exact this
theorem enter_fn {P : Program} {F : FuncId} {fn : Func} (hf : P.funcs[F]? = some fn) (h1 : (fn.name == "runtime.NumGoroutine") = false) (h2 : fn.body.isNone = false) (args : Array Value) (w : World) : (callFunc F args).run P w = .ok (.enter F args) w := by
  have h1' : ¬ fn.name = "runtime.NumGoroutine" := by simpa using h1
  have h2' : ¬ fn.body = Option.none := fun e => by rw [e] at h2; cases h2
  unfold callFunc
  simp [go_sem, hf, h1', h2']
set_option maxHeartbeats 1000000 in
theorem decode_any (s : ByteArray) (w : World) (hs : s.size ≤ 140737488351232) : Calls Try.prog 10 #[.string s] w fun e w' => e = .returned (.string (decS s)) ∧ Below w.heap.size w w' := by
  have hw := walk_any 27 #[.pointer (some ⟨w.heap.size, 0, none⟩)] (enter_fn Try.func27 (by kernel_rfl) (by kernel_rfl)) s hs
    (fun p wr => 0 ≤ p ∧ p ≤ s.size ∧ Below w.heap.size w wr ∧ ∃ xs, xs ++ (itemsF s p).map (byteC s) = decL s ∧ CellRow wr w.heap.size 49 5 .u8 xs)
    (fun p w1 w2 ⟨h0, h1, h2, xs, h3, h4⟩ hb => ⟨h0, h1, below_after h2 hb, xs, h3, h4.after hb⟩)
    (fun p w1 h0 hlt ⟨_, h1, h2, xs, h3, h4⟩ => (dec1_any p (byteC s p) (isC s p) w.heap.size w1 xs h4 (by
        have := itemsF_len s _ 0 (by omega) (by omega) rfl
        have e := congrArg List.length h3
        simp only [List.length_append, List.length_map, decL] at e
        omega)).mono fun e w2 ⟨g1, g2, g3⟩ =>
      ⟨g1, by have := nxtC_gt s p; omega, nxtC_le s p hlt, h2.trans g3, _, by rw [List.append_assoc, ← h3, itemsF_go hlt]; rfl, g2⟩)
  go_enter Try.func10, Try.ntmps10
  go_wp2_with fail
  refine (hw _ ⟨by omega, by omega, below_one _ _, [], rfl, _, Blk.new _ _ _, own_nil _ _ _ _⟩).mono ?_
  rintro e w1 ⟨rfl, _, _, hb, xs, hx, v, hbl, ho⟩
  rw [itemsF_end, List.map_nil, List.append_nil] at hx
  subst hx
  have c0 : w1.cell? ⟨w.heap.size, 0, none⟩ = some v := hbl.cell 0
  have ht := own_string (P := Try.prog) Try.underlying49 Try.underlying5 Try.underlying9 ho
  clear hw
  go_wp2
  go_ret
  exact ⟨rfl, hb⟩
theorem coded_cnt (s : ByteArray) (w : World) (hs : s.size ≤ 140737488351232) : Calls Try.prog 11 #[.string s] w fun e w' => e = .returned (.int .i64 (cntF s 0 : Nat)) ∧ Below w.heap.size w w' := by
  have hw := walk_any 28 #[.pointer (some ⟨w.heap.size, 0, none⟩)] (enter_fn Try.func28 (by kernel_rfl) (by kernel_rfl)) s hs
    (fun p wr => 0 ≤ p ∧ p ≤ s.size ∧ Below w.heap.size w wr ∧ ∃ n : Nat, n + cntF s p = cntF s 0 ∧ Blk wr w.heap.size 3 #[.int .i64 (n : Int)])
    (fun p w1 w2 ⟨h0, h1, h2, n, h3, h4⟩ hb => ⟨h0, h1, below_after h2 hb, n, h3, h4.after hb⟩)
    (fun p w1 h0 hlt ⟨_, h1, h2, n, h3, h4⟩ => (cod1_any p (byteC s p) (isC s p) w.heap.size w1 n h4 (by
        have := cntF_le s 0 (by omega) (by omega)
        omega)).mono fun e w2 ⟨g1, g2, g3⟩ =>
      ⟨g1, by have := nxtC_gt s p; omega, nxtC_le s p hlt, h2.trans g3, _, by have := cntF_go hlt; unfold cntUp; omega, g2⟩)
  go_enter Try.func11, Try.ntmps11
  go_wp2_with fail
  refine (hw _ ⟨by omega, by omega, below_one _ _, 0, by omega, Blk.new _ _ _⟩).mono ?_
  rintro e w1 ⟨rfl, _, _, hb, n, hx, hbl⟩
  rw [cntF_end] at hx
  obtain rfl : n = cntF s 0 := by omega
  have c0 := hbl.cell 0
  simp only [List.getElem?_toArray, List.getElem?_cons_zero] at c0
  clear hw
  go_wp2
  go_ret
  exact ⟨rfl, hb⟩
/-- an answer that is a slice of the call's own -/
def RowSuch (e : TypeId) (k : IntKind) (xs : List Int) (w : World) (en : Ending) (w' : World) : Prop := ∃ v, en = .returned v ∧ w'.ownsRow w.heap.size e 1 v xs.length (nums k xs) ∧ Below w.heap.size w w'
theorem strays_any (s : ByteArray) (w : World) (hs : s.size * 8 ≤ 140737488351232) : Calls Try.prog 13 #[.string s] w (RowSuch 3 .i64 (strF s 0) w) := by
  have hw := walk_any 29 #[.pointer (some ⟨w.heap.size, 0, none⟩)] (enter_fn Try.func29 (by kernel_rfl) (by kernel_rfl)) s (by omega)
    (fun p wr => 0 ≤ p ∧ p ≤ s.size ∧ Below w.heap.size w wr ∧ ∃ xs, xs ++ strF s p = strF s 0 ∧ CellRow wr w.heap.size 22 3 .i64 xs)
    (fun p w1 w2 ⟨h0, h1, h2, xs, h3, h4⟩ hb => ⟨h0, h1, below_after h2 hb, xs, h3, h4.after hb⟩)
    (fun p w1 h0 hlt ⟨_, h1, h2, xs, h3, h4⟩ => (str1_any p (byteC s p) (isC s p) w.heap.size w1 xs h4 (by
        have := strF_le s 0 (by omega) (by omega)
        have e := congrArg List.length h3
        simp only [List.length_append] at e
        omega)).mono fun e w2 ⟨g1, g2, g3⟩ =>
      ⟨g1, by have := nxtC_gt s p; omega, nxtC_le s p hlt, h2.trans g3, _, by
        rw [List.append_assoc, ← h3, strF_go hlt]
        congr 1
        have e : (!isC s p && (byteC s p == 37)) = isS s p := by
          unfold isS byteC
          cases isC s p <;> simp
        rw [e]
        split <;> rfl, g2⟩)
  go_enter Try.func13, Try.ntmps13
  go_wp2_with fail
  refine (hw _ ⟨by omega, by omega, below_one _ _, [], rfl, _, Blk.new _ _ _, own_nil _ _ _ _⟩).mono ?_
  rintro e w1 ⟨rfl, _, _, hb, xs, hx, v, hbl, ho⟩
  rw [strF_end, List.append_nil] at hx
  subst hx
  have c0 : w1.cell? ⟨w.heap.size, 0, none⟩ = some v := hbl.cell 0
  clear hw
  go_wp2
  go_ret
  exact ⟨_, rfl, own_less ho (by omega), hb⟩
end Go.Proofs.Ytfbgmlophkbejaa
