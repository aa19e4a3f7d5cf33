/- Scalar: a text in pieces: what is sure of it, what is held. Plain. -/
import Derived.Test.YtgippjhkimohlaaDoorScP
set_option linter.unusedVariables false
set_option linter.unusedSimpArgs false
namespace Go.Proofs.YtgippjhkimohlaaDoor
open Go.RowKit Go.Proofs.YtgippjhkimohlaaDoorW.PrintWords Go.Proofs.YtgippjhkimohlaaDoorW.PrintLast
/-- l: the pieces that are sure; e: where what is held begins -/
structure Sur (s : ByteArray) (l : List (Int × Pc)) (e : Int) : Prop where
  path : To s 0 l e
  shut : ∀ p ∈ l, opnT (tail s p.1) = false
  le : e ≤ s.size
  open_ : e = s.size ∨ (e < s.size ∧ opnT (tail s e) = true)
theorem Sur.pos {s : ByteArray} {l : List (Int × Pc)} {e : Int} (h : Sur s l e) : 0 ≤ e := (h.path.le (by omega)).1
/-- so far: pieces up to a place, all shut -/
structure SurAt (s : ByteArray) (l : List (Int × Pc)) (e : Int) : Prop where
  path : To s 0 l e
  shut : ∀ p ∈ l, opnT (tail s p.1) = false
  pos : 0 ≤ e
  le : e ≤ s.size
theorem SurAt.start (s : ByteArray) : SurAt s [] 0 := ⟨.nil 0, fun p hp => (by cases hp), by omega, by omega⟩
theorem SurAt.next {s : ByteArray} {l : List (Int × Pc)} {e : Int} (h : SurAt s l e) (he : e < s.size) (ho : opnT (tail s e) = false) : SurAt s (l ++ [(e, fstT (tail s e))]) (e + (fstT (tail s e)).size) := by
  have hst := fst_step s e h.pos he
  refine ⟨h.path.snoc he, fun p hp => ?_, by have := h.pos; omega, hst.2⟩
  rcases List.mem_append.1 hp with hp | hp
  · exact h.shut p hp
  · rw [List.mem_singleton.1 hp]; exact ho
theorem SurAt.done {s : ByteArray} {l : List (Int × Pc)} {e : Int} (h : SurAt s l e) (ho : e = s.size ∨ (e < s.size ∧ opnT (tail s e) = true)) : Sur s l e := ⟨h.path, h.shut, h.le, ho⟩
theorem sur_from (s : ByteArray) (n : Nat) : ∀ (l : List (Int × Pc)) (e : Int), SurAt s l e → (s.size : Int) - e = n → ∃ l' e', Sur s l' e' := by
  induction n using Nat.strongRecOn with
  | ind n ih =>
    intro l e h hn
    by_cases hl : e < s.size
    · have hst := fst_step s e h.pos hl
      cases ho : opnT (tail s e) with
      | true => exact ⟨l, e, h.done (Or.inr ⟨hl, ho⟩)⟩
      | false => exact ih ((s.size : Int) - (e + (fstT (tail s e)).size)).toNat (by omega) _ _ (h.next hl ho) (by omega)
    · exact ⟨l, e, h.done (Or.inl (by have := h.le; omega))⟩
theorem sur_ex (s : ByteArray) : ∃ l e, Sur s l e := sur_from s s.size [] 0 (SurAt.start s) (by omega)
theorem tail_zero (s : ByteArray) : tail s 0 = s := by
  have hz := tail_size s 0 (by omega) (by omega)
  exact ba_ext (by omega) fun i h0 h1 => by rw [bt_tail_ _ _ _ (by omega) h0]; congr 1; omega
theorem tail_end (s : ByteArray) : (tail s s.size).size = 0 := by have := tail_size s s.size (by omega) (by omega); omega
theorem tail_app (s t : ByteArray) (e : Int) (h0 : 0 ≤ e) (h : e ≤ s.size) : tail (s ++ t) e = tail s e ++ t := by
  have hz : (s ++ t).size = s.size + t.size := ByteArray.size_append
  have z1 := tail_size s e h0 h
  have z2 := tail_size (s ++ t) e h0 (by omega)
  have z3 : (tail s e ++ t).size = (tail s e).size + t.size := ByteArray.size_append
  refine ba_ext (by omega) fun i hi hl => ?_
  rw [bt_tail_ _ _ _ h0 hi, bt_app _ _ _ (by omega), bt_app _ _ _ hi]
  by_cases hc : i < (tail s e).size
  · rw [if_pos (by omega), if_pos hc, bt_tail_ _ _ _ h0 hi]
  · rw [if_neg (by omega), if_neg hc]
    congr 1
    omega
theorem To.trans {s : ByteArray} {a b e : Int} {l r : List (Int × Pc)} (h : To s a l b) (k : To s b r e) : To s a (l ++ r) e := by
  induction h with
  | nil a => exact k
  | cons h r ih => exact .cons h (ih k)
/-- the pieces of what is left, in the whole -/
theorem To.unrest {s : ByteArray} {E b f : Int} {l : List (Int × Pc)} (h : To (tail s E) b l f) (h0 : 0 ≤ E) (hE : E ≤ s.size) (hb : 0 ≤ b) : To s (b + E) (l.map fun p => (p.1 + E, p.2)) (f + E) := by
  induction h with
  | nil a => exact .nil _
  | @cons a e l h r ih =>
    have z := tail_size s E h0 hE
    have hst := fst_step (tail s E) a hb h
    have e1 : tail (tail s E) a = tail s (a + E) := by rw [tail_tail s E a h0 hb hE]; congr 1; omega
    have := To.cons (s := s) (a := a + E) (l := l.map fun p => (p.1 + E, p.2)) (e := e + E) (by omega) (by
      have := ih (by omega)
      rw [e1] at this
      rw [show a + E + (fstT (tail s (a + E))).size = a + (fstT (tail s (a + E))).size + E by omega]
      exact this)
    rw [← e1] at this
    exact this
/-- a piece that is shut stays so -/
theorem opn_app (s t : ByteArray) (a : Int) (h0 : 0 ≤ a) (h : a < s.size) (ho : opnT (tail s a) = false) : opnT (tail (s ++ t) a) = false := by
  have z1 := tail_size s a h0 (by omega)
  have hz : (s ++ t).size = s.size + t.size := ByteArray.size_append
  have z2 := tail_size (s ++ t) a h0 (by omega)
  have hb : ∀ i : Int, 0 ≤ i → i < (tail s a).size → bt (tail (s ++ t) a) i = bt (tail s a) i := fun i hi hl => by
    rw [bt_tail_ _ _ _ h0 hi, bt_tail_ _ _ _ h0 hi, bt_app s t _ (by omega), if_pos (by omega)]
  have e1 := run_ext (t := tail s a) (u := tail (s ++ t) a) (by omega) (by omega) ho hb
  have hr := runT_is (tail s a) (by omega)
  have h2 := hr.size
  unfold opnT at ho ⊢
  have ho' := of_decide_eq_false ho
  refine decide_eq_false ?_
  rw [e1, hb 0 (by omega) (by omega)]
  omega
theorem Sur.grow {s t : ByteArray} {l l' : List (Int × Pc)} {e e' : Int} (h : Sur s l e) (k : Sur (tail s e ++ t) l' e') : Sur (s ++ t) (l ++ l'.map fun p => (p.1 + e, p.2)) (e' + e) ∧ tail (s ++ t) (e' + e) = tail (tail s e ++ t) e' := by
  have hp := h.pos
  have kp := k.pos
  have hz : (s ++ t).size = s.size + t.size := ByteArray.size_append
  have ha := tail_app s t e hp h.le
  rw [← ha] at k ⊢
  have z := tail_size (s ++ t) e hp (by have := h.le; omega)
  have hk := k.path.unrest hp (by have := h.le; omega) (Int.le_refl 0)
  rw [Int.zero_add] at hk
  have htt : ∀ b : Int, 0 ≤ b → tail (tail (s ++ t) e) b = tail (s ++ t) (b + e) := fun b hb => by
    rw [tail_tail (s ++ t) e b hp hb (by have := h.le; omega)]
    congr 1
    omega
  refine ⟨⟨(h.path.grow (by omega) h.shut).trans hk, fun p hp2 => ?_, by have := k.le; omega, ?_⟩, (htt e' kp).symm⟩
  · rcases List.mem_append.1 hp2 with hp2 | hp2
    · have hm := h.path.mem (by omega) p hp2
      exact opn_app s t p.1 hm.1 hm.2.1 (h.shut p hp2)
    · obtain ⟨q, hq, rfl⟩ := List.mem_map.1 hp2
      have hm := k.path.mem (by omega) q hq
      show opnT (tail (s ++ t) (q.1 + e)) = false
      rw [← htt q.1 hm.1]
      exact k.shut q hq
  · rcases k.open_ with g | ⟨g1, g2⟩
    · exact Or.inl (by omega)
    · exact Or.inr ⟨by omega, by rw [← htt e' kp]; exact g2⟩
/-- what all pieces say, by what is sure and what is held -/
theorem Sur.dec {s : ByteArray} {l : List (Int × Pc)} {e : Int} (h : Sur s l e) : decT (s.extract 0 e.toNat) = l.map (·.2.rune) ∧ decT s = l.map (·.2.rune) ++ (if e = s.size then [] else [65533]) := by
  have hp := h.pos
  have hle := h.le
  have hz : ((s.extract 0 e.toNat).size : Int) = e := by have := size_ext s 0 e.toNat (by omega); omega
  constructor
  · have h2 : To (s.extract 0 e.toNat) 0 l (s.extract 0 e.toNat).size := by rw [hz]; exact h.path.pre (by omega) (Int.le_refl e) hle
    unfold decT
    rw [To.whole h2]
  · unfold decT
    rw [h.path.pcs_eq (by omega), List.map_append]
    congr 1
    rcases h.open_ with g | ⟨g1, g2⟩
    · rw [if_pos g, pcs_end s e (by omega)]
      rfl
    · have zt := tail_size s e hp hle
      have hr := runT_is (tail s e) (by omega)
      unfold opnT at g2
      have g3 := of_decide_eq_true g2
      have hf : fstT (tail s e) = ⟨runT (tail s e), 65533, true⟩ := by unfold fstT; rw [if_neg (by omega)]
      rw [if_neg (by omega), pcs_go s e hp g1, hf, pcs_end s _ (by show (s.size : Int) ≤ e + runT (tail s e); omega)]
      rfl
theorem Sur.last {s : ByteArray} {l : List (Int × Pc)} {e : Int} (h : Sur s l e) : (e = s.size ∧ pcs s 0 = l) ∨ (e < s.size ∧ pcs s 0 = l ++ [(e, ⟨runT (tail s e), 65533, true⟩)] ∧ runT (tail s e) < bgN (bt s e)) := by
  have hp := h.pos
  have hle := h.le
  rcases h.open_ with g | ⟨g1, g2⟩
  · refine Or.inl ⟨g, ?_⟩
    rw [h.path.pcs_eq (by omega), pcs_end s e (by omega), List.append_nil]
  · have zt := tail_size s e hp hle
    unfold opnT at g2
    have g3 := of_decide_eq_true g2
    have hf : fstT (tail s e) = ⟨runT (tail s e), 65533, true⟩ := by unfold fstT; rw [if_neg (by omega)]
    refine Or.inr ⟨g1, ?_, ?_⟩
    · rw [h.path.pcs_eq (by omega), pcs_go s e hp g1, hf, pcs_end s _ (by show (s.size : Int) ≤ e + runT (tail s e); omega)]
    · have := bt_tail_ s e 0 hp (by omega)
      rw [show e + 0 = e by omega] at this
      rw [← this]
      exact g3.1
theorem sur_uniq_at {s : ByteArray} {a e : Int} {l : List (Int × Pc)} (h : To s a l e) (h0 : 0 ≤ a) (hs : ∀ p ∈ l, opnT (tail s p.1) = false) (he : e = s.size ∨ (e < s.size ∧ opnT (tail s e) = true)) :
    ∀ (l' : List (Int × Pc)) (e' : Int), To s a l' e' → (∀ p ∈ l', opnT (tail s p.1) = false) → (e' = s.size ∨ (e' < s.size ∧ opnT (tail s e') = true)) → l = l' ∧ e = e' := by
  induction h with
  | nil a =>
    intro l' e' k ks ke
    cases k with
    | nil => exact ⟨rfl, rfl⟩
    | cons h2 r2 =>
      have h3 := ks _ (List.mem_cons_self ..)
      simp only at h3
      rcases he with he | he
      · omega
      · rw [he.2] at h3; cases h3
  | @cons a e l h r ih =>
    intro l' e' k ks ke
    have hst := fst_step s a h0 h
    cases k with
    | nil =>
      have h3 := hs _ (List.mem_cons_self ..)
      simp only at h3
      rcases ke with ke | ke
      · omega
      · rw [ke.2] at h3; cases h3
    | cons h2 r2 =>
      obtain ⟨e1, e2⟩ := ih (by omega) (fun p hp => hs p (List.mem_cons_of_mem _ hp)) he _ _ r2 (fun p hp => ks p (List.mem_cons_of_mem _ hp)) ke
      exact ⟨by rw [e1], e2⟩
theorem sur_uniq {s : ByteArray} {l l' : List (Int × Pc)} {e e' : Int} (h : Sur s l e) (k : Sur s l' e') : l = l' ∧ e = e' := sur_uniq_at h.path (by omega) h.shut h.open_ l' e' k.path k.shut k.open_
end Go.Proofs.YtgippjhkimohlaaDoor
