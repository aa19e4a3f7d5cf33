/- Scalar: pieces of a beginning, of what is left, of a text that grows. Plain. -/
import Derived.Test.YtgippjhkimohlaaDoorScaC
set_option linter.unusedVariables false
set_option linter.unusedSimpArgs false
namespace Go.Proofs.YtgippjhkimohlaaDoor
open Go.RowKit Go.Proofs.YtgippjhkimohlaaDoorW.PrintWords Go.Proofs.YtgippjhkimohlaaDoorW.PrintLast
theorem okB_congr {t u : ByteArray} {i : Int} (h0 : bt u 0 = bt t 0) (h1 : bt u i = bt t i) (h : okB t i) : okB u i := by
  rcases h with ⟨rfl, h⟩ | ⟨hi, h⟩
  · exact Or.inl ⟨rfl, by rw [h0, h1]; exact h⟩
  · exact Or.inr ⟨hi, by rw [h1]; exact h⟩
theorem valT_congr {t u : ByteArray} {n : Int} (hn : 1 ≤ n) (h4 : n ≤ 4) (h : ∀ i : Int, 0 ≤ i → i < n → bt u i = bt t i) : valT u n = valT t n := by
  unfold valT
  rw [h 0 (by omega) (by omega)]
  by_cases c1 : n = 1
  · rw [if_pos c1, if_pos c1]
  rw [if_neg c1, if_neg c1, h 1 (by omega) (by omega)]
  by_cases c2 : n = 2
  · rw [if_pos c2, if_pos c2]
  rw [if_neg c2, if_neg c2, h 2 (by omega) (by omega)]
  by_cases c3 : n = 3
  · rw [if_pos c3, if_pos c3]
  rw [if_neg c3, if_neg c3, h 3 (by omega) (by omega)]
theorem run_le4 {t : ByteArray} (ht : 0 < t.size) : 1 ≤ runT t ∧ runT t ≤ 4 := by
  have h := runT_is t ht
  have := bgN_range (bt t 0)
  exact ⟨h.one, by have := h.most; omega⟩
theorem fst_congr {t u : ByteArray} (ht : 0 < t.size) (hr : runT u = runT t) (h : ∀ i : Int, 0 ≤ i → i < runT t → bt u i = bt t i) : fstT u = fstT t := by
  have hl := run_le4 ht
  unfold fstT
  rw [hr, h 0 (by omega) (by omega), valT_congr hl.1 hl.2 h]
theorem run_pre {t u : ByteArray} (ht : 0 < t.size) (hz : u.size ≤ t.size) (hn : runT t ≤ u.size) (h : ∀ i : Int, 0 ≤ i → i < u.size → bt u i = bt t i) : runT u = runT t := by
  have hr := runT_is t ht
  have h1 := hr.one
  have h0 := h 0 (by omega) (by omega)
  refine (RunIs.eq ⟨h1, fun i hi hl => okB_congr h0 (h i (by omega) (by omega)) (hr.ok i hi hl), hn, by rw [h0]; exact hr.most, ?_⟩ (by omega)).symm
  rw [h0]
  rcases hr.stop with g | g | g
  · exact Or.inl g
  · exact Or.inr (Or.inl (by omega))
  · by_cases e : runT t = u.size
    · exact Or.inr (Or.inl e)
    · exact Or.inr (Or.inr fun k => g (okB_congr h0.symm (h _ (by omega) (by omega)).symm k))
theorem run_ext {t u : ByteArray} (ht : 0 < t.size) (hz : t.size ≤ u.size) (ho : opnT t = false) (h : ∀ i : Int, 0 ≤ i → i < t.size → bt u i = bt t i) : runT u = runT t := by
  have hr := runT_is t ht
  have h1 := hr.one
  have h2 := hr.size
  have h0 := h 0 (by omega) (by omega)
  have ho' : ¬ (runT t < bgN (bt t 0) ∧ runT t = t.size) := by unfold opnT at ho; exact of_decide_eq_false ho
  refine (RunIs.eq ⟨h1, fun i hi hl => okB_congr h0 (h i (by omega) (by omega)) (hr.ok i hi hl), by omega, by rw [h0]; exact hr.most, ?_⟩ (by omega)).symm
  rw [h0]
  by_cases e : runT t = t.size
  · exact Or.inl (by omega)
  · rcases hr.stop with g | g | g
    · exact Or.inl g
    · exact absurd g e
    · exact Or.inr (Or.inr fun k => g (okB_congr h0.symm (h _ (by omega) (by omega)).symm k))
theorem bt_tail_ (s : ByteArray) (a i : Int) (ha : 0 ≤ a) (hi : 0 ≤ i) : bt (tail s a) i = bt s (a + i) := by
  unfold tail
  by_cases h : (s.size : Int) ≤ a + i
  · rw [bt_out s (a + i) h, bt_out]
    rw [ByteArray.size_extract]
    omega
  · rw [bt_ext s a.toNat s.size (Nat.le_refl _) i hi, if_pos (by omega)]
    congr 1
    omega
theorem bt_pre (s : ByteArray) (e i : Int) (h0 : 0 ≤ e) (h : e ≤ s.size) (hi : 0 ≤ i) (hl : i < e) : bt (s.extract 0 e.toNat) i = bt s i := by
  rw [bt_ext s 0 e.toNat (by omega) i hi, if_pos (by omega)]
  congr 1
  omega
/-- the pieces l lead from the place a to the place e -/
inductive To (s : ByteArray) : Int → List (Int × Pc) → Int → Prop
  | nil (a : Int) : To s a [] a
  | cons {a e : Int} {l : List (Int × Pc)} (h : a < s.size) (r : To s (a + (fstT (tail s a)).size) l e) : To s a ((a, fstT (tail s a)) :: l) e
theorem To.le {s : ByteArray} {a e : Int} {l : List (Int × Pc)} (h : To s a l e) (h0 : 0 ≤ a) : a ≤ e ∧ (a ≤ s.size → e ≤ s.size) := by
  induction h with
  | nil a => exact ⟨by omega, id⟩
  | cons h r ih =>
    have := fst_step s _ h0 h
    have := ih (by omega)
    omega
theorem To.pcs_eq {s : ByteArray} {a e : Int} {l : List (Int × Pc)} (h : To s a l e) (h0 : 0 ≤ a) : pcs s a = l ++ pcs s e := by
  induction h with
  | nil a => rfl
  | cons h r ih =>
    have := fst_step s _ h0 h
    rw [pcs_go s _ h0 h, ih (by omega)]
    rfl
theorem To.snoc {s : ByteArray} {a e : Int} {l : List (Int × Pc)} (h : To s a l e) (he : e < s.size) : To s a (l ++ [(e, fstT (tail s e))]) (e + (fstT (tail s e)).size) := by
  induction h with
  | nil a => exact .cons he (.nil _)
  | cons h r ih => exact .cons h (ih he)
theorem To.all (s : ByteArray) (n : Nat) : ∀ a : Int, 0 ≤ a → a ≤ s.size → (s.size : Int) - a = n → To s a (pcs s a) s.size := by
  induction n using Nat.strongRecOn with
  | ind n ih =>
    intro a h0 hle hn
    by_cases h : a < s.size
    · have hs := fst_step s a h0 h
      rw [pcs_go s a h0 h]
      exact .cons h (ih ((s.size : Int) - (a + (fstT (tail s a)).size)).toNat (by omega) _ (by omega) (by omega) (by omega))
    · obtain rfl : a = s.size := by omega
      rw [pcs_end s _ (by omega)]
      exact .nil _
/-- the pieces of a beginning -/
theorem To.pre {s : ByteArray} {a e E : Int} {l : List (Int × Pc)} (h : To s a l e) (h0 : 0 ≤ a) (he : e ≤ E) (hE : E ≤ s.size) : To (s.extract 0 E.toNat) a l e := by
  induction h with
  | nil a => exact .nil a
  | @cons a e l h r ih =>
    have hs := fst_step s a h0 h
    have hr := (r.le (by omega)).1
    have hz := size_ext s 0 E.toNat (by omega)
    have z1 := tail_size s a h0 (by omega)
    have z2 := tail_size (s.extract 0 E.toNat) a h0 (by omega)
    have hb : ∀ i : Int, 0 ≤ i → i < (tail (s.extract 0 E.toNat) a).size → bt (tail (s.extract 0 E.toNat) a) i = bt (tail s a) i := fun i hi hl => by
      rw [bt_tail_ _ _ _ h0 hi, bt_tail_ _ _ _ h0 hi, bt_pre s E _ (by omega) hE (by omega) (by omega)]
    rw [fstT_size] at hs hr
    have e1 := run_pre (t := tail s a) (u := tail (s.extract 0 E.toNat) a) (by omega) (by omega) (by omega) hb
    have e2 := fst_congr (by omega) e1 (fun i hi hl => hb i hi (by omega))
    have := To.cons (s := s.extract 0 E.toNat) (a := a) (l := l) (e := e) (by omega) (by rw [e2]; exact ih (by rw [fstT_size]; omega) he)
    rw [e2] at this
    exact this
/-- the pieces of a text that grows: those that were closed stay -/
theorem To.grow {s t : ByteArray} {a e : Int} {l : List (Int × Pc)} (h : To s a l e) (h0 : 0 ≤ a) (ho : ∀ p ∈ l, opnT (tail s p.1) = false) : To (s ++ t) a l e := by
  induction h with
  | nil a => exact .nil a
  | @cons a e l h r ih =>
    have hs := fst_step s a h0 h
    have hz : (s ++ t).size = s.size + t.size := ByteArray.size_append
    have z1 := tail_size s a h0 (by omega)
    have z2 := tail_size (s ++ t) a h0 (by omega)
    have hb : ∀ i : Int, 0 ≤ i → i < (tail s a).size → bt (tail (s ++ t) a) i = bt (tail s a) i := fun i hi hl => by
      rw [bt_tail_ _ _ _ h0 hi, bt_tail_ _ _ _ h0 hi, bt_app s t _ (by omega), if_pos (by omega)]
    have ho1 : opnT (tail s a) = false := ho (a, fstT (tail s a)) (List.mem_cons_self ..)
    have e1 := run_ext (t := tail s a) (u := tail (s ++ t) a) (by omega) (by omega) ho1 hb
    have e2 := fst_congr (by omega) e1 (fun i hi hl => hb i hi (by rw [fstT_size] at hs; omega))
    have := To.cons (s := s ++ t) (a := a) (l := l) (e := e) (by omega) (by rw [e2]; exact ih (by omega) (fun p hp => ho p (List.mem_cons_of_mem _ hp)))
    rw [e2] at this
    exact this
theorem tail_tail (s : ByteArray) (e b : Int) (he : 0 ≤ e) (hb : 0 ≤ b) (h : e ≤ s.size) : tail (tail s e) b = tail s (e + b) := by
  have z := tail_size s e he h
  by_cases hl : e + b ≤ s.size
  · refine ba_ext (by have := tail_size (tail s e) b hb (by omega); have := tail_size s (e + b) (by omega) hl; omega) fun i h0 h1 => ?_
    rw [bt_tail_ _ _ _ hb h0, bt_tail_ _ _ _ he (by omega), bt_tail_ _ _ _ (by omega) h0]
    congr 1
    omega
  · refine ba_ext ?_ fun i h0 h1 => ?_
    · unfold tail
      simp only [ByteArray.size_extract]
      unfold tail at z
      rw [ByteArray.size_extract] at z
      omega
    · rw [bt_tail_ _ _ _ hb h0, bt_tail_ _ _ _ he (by omega), bt_tail_ _ _ _ (by omega) h0]
      congr 1
      omega
/-- the pieces of what is left -/
theorem To.rest {s : ByteArray} {a e E : Int} {l : List (Int × Pc)} (h : To s a l e) (h0 : 0 ≤ E) (hE : E ≤ a) (hs : a ≤ s.size) : To (tail s E) (a - E) (l.map fun p => (p.1 - E, p.2)) (e - E) := by
  induction h with
  | nil a => exact .nil _
  | @cons a e l h r ih =>
    have hst := fst_step s a (by omega) h
    have z := tail_size s E h0 (by omega)
    have e1 : tail (tail s E) (a - E) = tail s a := by rw [tail_tail s E (a - E) h0 (by omega) (by omega)]; congr 1; omega
    have := To.cons (s := tail s E) (a := a - E) (l := l.map fun p => (p.1 - E, p.2)) (e := e - E) (by omega) (by
      rw [e1]
      have := ih (by omega) (by omega)
      rw [show a - E + (fstT (tail s a)).size = a + (fstT (tail s a)).size - E by omega]
      exact this)
    rw [e1] at this
    simpa using this
/-- pieces that lead from the front of a text to its end are its pieces -/
theorem To.whole {s : ByteArray} {l : List (Int × Pc)} (h : To s 0 l s.size) : pcs s 0 = l := by
  rw [To.pcs_eq h (Int.le_refl 0), pcs_end s _ (by omega), List.append_nil]
theorem To.mem {s : ByteArray} {a e : Int} {l : List (Int × Pc)} (h : To s a l e) (h0 : 0 ≤ a) : ∀ p ∈ l, 0 ≤ p.1 ∧ p.1 < s.size ∧ p.2 = fstT (tail s p.1) ∧ p.1 + p.2.size ≤ e := by
  induction h with
  | nil a => intro p hp; cases hp
  | @cons a e l h r ih =>
    have hst := fst_step s a h0 h
    intro p hp
    rcases List.mem_cons.1 hp with rfl | hp
    · exact ⟨h0, h, rfl, (r.le (by omega)).1⟩
    · exact ih (by omega) p hp
end Go.Proofs.YtgippjhkimohlaaDoor
