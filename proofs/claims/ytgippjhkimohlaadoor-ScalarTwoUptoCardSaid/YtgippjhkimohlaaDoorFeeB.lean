/- Scalar: what the printed functions of a decoder come to; a decoder fed, in a walk. -/
import Derived.Test.YtgippjhkimohlaaDoorFeeA
import Derived.Test.YtgippjhkimohlaaDoorQFeex2
import Derived.Test.YtgippjhkimohlaaDoorQFeex3
import Derived.Test.YtgippjhkimohlaaDoorQFeex4
import Derived.Test.YtgippjhkimohlaaDoorQFeex5
set_option linter.unusedVariables false
set_option linter.unusedSimpArgs false
namespace Go.Proofs.YtgippjhkimohlaaDoor
open Go.RowKit Go.Proofs.YtgippjhkimohlaaDoorW.PrintWords Go.Proofs.YtgippjhkimohlaaDoorQ.Fee
theorem tail_end_eq (u : ByteArray) : tail u u.size = (⟨#[]⟩ : ByteArray) := ba_ext (by rw [tail_end]; rfl) fun i h0 h1 => by rw [tail_end] at h1; omega
theorem Feed_l0 (u : ByteArray) (hu : u.size ≤ 1000000000) : ∀ (n k : Nat) (l : List (Int × Pc)) (a : Int), SurAt u l a → (u.size : Int) - a = n → (l.length : Int) ≤ a → n < k →
    ∃ l' e', Sur u l' e' ∧ l'.length ≤ u.size ∧ scalar_Decoder_Feed.l0 k (tail u a) (l.map (·.2.rune)) (⟨#[]⟩ : ByteArray) = some (l'.map (·.2.rune), tail u e') := by
  intro n
  induction n using Nat.strongRecOn with
  | ind n ih =>
    intro k l a h hn hl hk
    obtain ⟨k, rfl⟩ : ∃ m, k = m + 1 := ⟨k - 1, by omega⟩
    have hz := tail_size u a h.pos h.le
    by_cases hlt : a < u.size
    · have hst := fst_step u a h.pos hlt
      have hf : scalar_first.f (tail u a) = some (0, (fstT (tail u a)).size, (fstT (tail u a)).rune, (fstT (tail u a)).bad, opnT (tail u a)) := by
        unfold scalar_first.f
        rw [if_pos (by omega)]
      cases ho : opnT (tail u a) with
      | true =>
        refine ⟨l, a, h.done (Or.inr ⟨hlt, ho⟩), by omega, ?_⟩
        simp only [scalar_Decoder_Feed.l0]
        rw [if_pos (by omega), hf, ho]
        simp only [Option.bind_some, if_true]
      | false =>
        obtain ⟨l', e', h1, h2, h3⟩ := ih ((u.size : Int) - (a + (fstT (tail u a)).size)).toNat (by omega) k (l ++ [(a, fstT (tail u a))]) (a + (fstT (tail u a)).size) (h.next hlt ho) (by omega) (by rw [List.length_append, List.length_singleton]; omega) (by omega)
        refine ⟨l', e', h1, h2, ?_⟩
        have htt : (tail u a).extract (fstT (tail u a)).size.toNat (tail u a).size = tail u (a + (fstT (tail u a)).size) := tail_tail u a _ h.pos (by omega) h.le
        simp only [scalar_Decoder_Feed.l0]
        rw [if_pos (by omega), hf, ho]
        simp only [Option.bind_some, Bool.false_eq_true, if_false]
        rw [if_pos (by rw [List.length_map]; omega), if_pos (by omega), if_pos (by omega), htt]
        rw [List.map_append] at h3
        exact h3
    · obtain rfl : a = u.size := by have := h.le; omega
      refine ⟨l, u.size, h.done (Or.inl rfl), by omega, ?_⟩
      simp only [scalar_Decoder_Feed.l0]
      rw [if_neg (by omega), tail_end_eq]
theorem Feed_is (h p : ByteArray) (hu : (h ++ p).size ≤ 1000000000) (k : Nat) (hk : (h ++ p).size < k) : ∃ l e, Sur (h ++ p) l e ∧ l.length ≤ (h ++ p).size ∧ scalar_Decoder_Feed.f k h p = some (l.map (·.2.rune), tail (h ++ p) e) := by
  have hz : (h ++ p).size = h.size + p.size := ByteArray.size_append
  obtain ⟨l, e, h1, h2, h3⟩ := Feed_l0 (h ++ p) hu (h ++ p).size k [] 0 (SurAt.start _) (by omega) (by simp) hk
  rw [tail_zero] at h3
  refine ⟨l, e, h1, h2, ?_⟩
  unfold scalar_Decoder_Feed.f
  rw [if_pos (by omega)]
  exact h3
theorem To.snoc_end {s : ByteArray} {p : Int × Pc} : ∀ (l : List (Int × Pc)) (a e : Int), To s a (l ++ [p]) e → e = p.1 + p.2.size := by
  intro l
  induction l with
  | nil =>
    intro a e h
    cases h with
    | cons h r => cases r; rfl
  | cons q l ih =>
    intro a e h
    cases h with
    | cons h r => exact ih _ _ r
theorem rd_snoc (l : List (Int × Pc)) (p : Int × Pc) : rd_T33 ((l ++ [p]).map toS33) (((l ++ [p]).length : Int) - 1) = toS33 p := by
  unfold rd_T33
  rw [List.map_append, List.length_append, List.length_singleton, show ((((l.length + 1 : Nat)) : Int) - 1).toNat = (l.map toS33).length by rw [List.length_map]; omega, List.getD_eq_getElem?_getD]
  simp
theorem RHeld_is (s : ByteArray) (hs : s.size ≤ 1000000000) {l : List (Int × Pc)} {e : Int} (h : Sur s l e) : posternref02_Held.f s = some (tail s e) := by
  have hlen := pcs_len s s.size 0 (by omega) (by omega)
  unfold posternref02_Held.f posternref02_Pieces.f
  rw [if_pos (by omega)]
  simp only [Option.bind_some, List.length_map]
  rcases h.last with ⟨g, hp⟩ | ⟨g, hp, hb⟩
  · rw [hp] at hlen ⊢
    rcases List.eq_nil_or_concat l with rfl | ⟨l', p, rfl⟩
    · rw [if_pos (show ((([] : List (Int × Pc)).length : Nat) : Int) = 0 from rfl), g, tail_end_eq]
    · rw [List.concat_eq_append] at *
      have hm := h.path.mem (by omega) p (by simp)
      have hsh := h.shut p (by simp)
      have hend := To.snoc_end l' 0 e h.path
      have hbt := bt_range s p.1
      have hz := tail_size s p.1 hm.1 (by omega)
      have hb0 := bt_tail_ s p.1 0 hm.1 (by omega)
      rw [show p.1 + 0 = p.1 by omega] at hb0
      have hl1 : (l' ++ [p]).length = l'.length + 1 := by rw [List.length_append, List.length_singleton]
      have hneg : ¬ p.2.size < bgN (bt s p.1) := fun hlt => by
        unfold opnT at hsh
        have := of_decide_eq_false hsh
        rw [hm.2.2.1, fstT_size] at hlt hend
        rw [← hb0] at hlt
        exact this ⟨hlt, by omega⟩
      have hw : wrap64 (((l' ++ [p]).length : Int) - 1) = ((l' ++ [p]).length : Int) - 1 := by unfold wrap64; omega
      rw [if_neg (by omega)]
      simp only [hw, rd_snoc, toS33]
      unfold posternref02_begins.f
      rw [if_pos (by omega), if_pos (by omega), if_pos hm.1, if_pos hm.2.1, if_pos hbt]
      simp only [Option.bind_some]
      rw [if_neg hneg, g, tail_end_eq]
      split <;> rfl
  · have hl1 : (l ++ [(e, (⟨runT (tail s e), 65533, true⟩ : Pc))]).length = l.length + 1 := by rw [List.length_append, List.length_singleton]
    have hbt := bt_range s e
    have hpos := h.pos
    rw [hp] at hlen ⊢
    have hw : wrap64 (((l ++ [(e, (⟨runT (tail s e), 65533, true⟩ : Pc))]).length : Int) - 1) = ((l ++ [(e, (⟨runT (tail s e), 65533, true⟩ : Pc))]).length : Int) - 1 := by unfold wrap64; omega
    rw [if_neg (by omega)]
    simp only [hw, rd_snoc, toS33]
    unfold posternref02_begins.f
    rw [if_pos (by omega), if_pos (by omega), if_pos hpos, if_pos g, if_pos hbt]
    simp only [Option.bind_some, if_true]
    rw [if_pos hb, if_pos (by omega)]
    rfl
end Go.Proofs.YtgippjhkimohlaaDoor
