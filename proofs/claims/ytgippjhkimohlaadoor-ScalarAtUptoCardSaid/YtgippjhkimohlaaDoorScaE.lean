/- Scalar: what scalar values are written as is read as just these. Plain. -/
import Derived.Test.YtgippjhkimohlaaDoorScaD
set_option linter.unusedVariables false
set_option linter.unusedSimpArgs false
namespace Go.Proofs.YtgippjhkimohlaaDoor
open Go.RowKit Go.Proofs.YtgippjhkimohlaaDoorW.PrintWords Go.Proofs.YtgippjhkimohlaaDoorW.PrintLast
theorem rd_app_ge (l r : List Int) (i : Int) (h : (l.length : Int) ≤ i) : rd (l ++ r) i = rd r (i - l.length) := by
  unfold rd
  rw [List.getD_eq_getElem?_getD, List.getD_eq_getElem?_getD, List.getElem?_append_right (by omega)]
  congr 2
  omega
def encS (l : List Int) : ByteArray := strOfNums (encL l)
theorem encS_size (l : List Int) : (encS l).size = (encL l).length := strOfNums_size _
theorem bt_encS (l : List Int) (h : ∀ r ∈ l, scal r = true) (i : Int) (h0 : 0 ≤ i) : bt (encS l) i = rd (encL l) i := bt_strOfNums _ i h0 (encL_range l h)
theorem encL_app (l r : List Int) : encL (l ++ r) = encL l ++ encL r := by unfold encL; exact List.flatMap_append ..
theorem encL_one (r : Int) : encL [r] = encB r := by simp [encL]
theorem encL_cons (r : Int) (l : List Int) : encL (r :: l) = encB r ++ encL l := by simp [encL]
theorem enc_to (l : List Int) (h : ∀ r ∈ l, scal r = true) : ∀ (suf pre : List Int), l = pre ++ suf → ∃ L, To (encS l) (encL pre).length L (encS l).size ∧ L.map (·.2.rune) = suf ∧ ∀ p ∈ L, p.2.bad = false := by
  intro suf
  induction suf with
  | nil =>
    intro pre hp
    rw [List.append_nil] at hp
    subst hp
    rw [encS_size]
    exact ⟨[], .nil _, rfl, fun p hp => by cases hp⟩
  | cons r suf ih =>
    intro pre hp
    obtain ⟨L, hL, hm, hb⟩ := ih (pre ++ [r]) (by rw [hp]; simp)
    have hr : scal r = true := h r (by rw [hp]; simp)
    have he : encL l = encL pre ++ (encB r ++ encL suf) := by rw [hp, encL_app, encL_cons]
    have hz : (encS l).size = (encL pre).length + ((encB r).length + (encL suf).length) := by rw [encS_size, he, List.length_append, List.length_append]
    have hl := encB_len4 r
    have z1 := tail_size (encS l) (encL pre).length (by omega) (by omega)
    have hf := enc_fst (tail (encS l) (encL pre).length) r hr (fun i h0 h1 => by
      rw [bt_tail_ _ _ _ (by omega) h0, bt_encS l h _ (by omega), he, rd_app_ge _ _ _ (by omega), rd_append_lt _ _ _ (by omega) (by omega)]
      congr 1
      omega) (by omega)
    refine ⟨_, .cons (by omega) (l := L) ?_, ?_, ?_⟩
    · rw [hf]
      have : ((encL (pre ++ [r])).length : Int) = (encL pre).length + (encB r).length := by rw [encL_app, encL_one, List.length_append]; omega
      rw [← this]
      exact hL
    · rw [List.map_cons, hm, hf]
    · intro p hp
      rcases List.mem_cons.1 hp with rfl | hp
      · rw [hf]
      · exact hb p hp
theorem dec_enc (l : List Int) (h : ∀ r ∈ l, scal r = true) : decT (encS l) = l ∧ ∀ p ∈ pcs (encS l) 0, p.2.bad = false := by
  obtain ⟨L, hL, hm, hb⟩ := enc_to l h l [] rfl
  have e := To.whole hL
  unfold decT
  rw [e]
  exact ⟨hm, hb⟩
/-- a piece says a scalar value -/
theorem fst_scal (t : ByteArray) (ht : 0 < t.size) : scal (fstT t).rune = true ∧ ((fstT t).bad = false → wid (fstT t).rune = (fstT t).size) ∧ ((fstT t).bad = true → (fstT t).rune = 65533 ∧ (fstT t).size ≤ 3) ∧ 1 ≤ (fstT t).size ∧ (fstT t).size ≤ 4 := by
  have hl := run_le4 ht
  by_cases h : runT t = bgN (bt t 0)
  · have hw := whole_scal (whole_is ht h) (Or.inr (bt_range t 0).1)
    unfold fstT
    rw [if_pos h]
    exact ⟨hw.1, fun _ => hw.2, fun h => (by cases h), hl.1, hl.2⟩
  · have hr := runT_is t ht
    have hg := bgN_range (bt t 0)
    have := hr.most
    unfold fstT
    rw [if_neg h]
    exact ⟨(by decide : scal 65533 = true), fun h => (by cases h), fun _ => ⟨rfl, by show runT t ≤ 3; omega⟩, hl.1, hl.2⟩
theorem decT_scal (s : ByteArray) : ∀ r ∈ decT s, scal r = true := by
  intro r hr
  unfold decT at hr
  obtain ⟨p, hp, rfl⟩ := List.mem_map.1 hr
  obtain ⟨h1, h2, h3, -⟩ := (To.all s s.size 0 (by omega) (by omega) (by omega)).mem (by omega) p hp
  rw [h3]
  exact (fst_scal _ (by have := tail_size s p.1 h1 (by omega); omega)).1
theorem dec_enc_dec (s : ByteArray) : decT (encS (decT s)) = decT s := (dec_enc _ (decT_scal s)).1
/-- a text without wrong pieces is written as it is -/
theorem enc_valT (t : ByteArray) (n : Int) (h : WholeIs t n) : ∀ i : Int, 0 ≤ i → i < n → rd (encB (valT t n)) i = bt t i := by
  obtain ⟨hs, hk⟩ := h
  have hb := bt_range t 0
  intro i h0 h1
  unfold valT lead
  rcases hk with hk | hk | hk | hk
  · obtain ⟨rfl, hk⟩ := hk
    obtain rfl : i = 0 := by omega
    rw [if_pos rfl, if_pos (by omega)]
    unfold encB
    rw [if_pos (by omega)]
    rfl
  · obtain ⟨rfl, hk⟩ := hk
    rw [if_neg (by omega), if_pos rfl, if_neg (by omega), if_pos (by omega)]
    unfold encB
    rw [if_neg (by omega), if_pos (by omega)]
    rcases (show i = 0 ∨ i = 1 by omega) with rfl | rfl
    · show 192 + _ = _; omega
    · show 128 + _ = _; omega
  · obtain ⟨rfl, hk⟩ := hk
    rw [if_neg (by omega), if_neg (by omega), if_pos rfl, if_neg (by omega), if_neg (by omega), if_pos (by omega)]
    unfold encB
    rw [if_neg (by omega), if_neg (by omega), if_pos (by omega)]
    rcases (show i = 0 ∨ i = 1 ∨ i = 2 by omega) with rfl | rfl | rfl
    · show 224 + _ = _; omega
    · show 128 + _ = _; omega
    · show 128 + _ = _; omega
  · obtain ⟨rfl, hk⟩ := hk
    rw [if_neg (by omega), if_neg (by omega), if_neg (by omega), if_neg (by omega), if_neg (by omega), if_neg (by omega)]
    unfold encB
    rw [if_neg (by omega), if_neg (by omega), if_neg (by omega)]
    rcases (show i = 0 ∨ i = 1 ∨ i = 2 ∨ i = 3 by omega) with rfl | rfl | rfl | rfl
    · show 240 + _ = _; omega
    · show 128 + _ = _; omega
    · show 128 + _ = _; omega
    · show 128 + _ = _; omega
theorem enc_all (s : ByteArray) {a e : Int} {l : List (Int × Pc)} (h : To s a l e) (h0 : 0 ≤ a) (hb : ∀ p ∈ l, p.2.bad = false) : ((encL (l.map (·.2.rune))).length : Int) = e - a ∧ ∀ i : Int, 0 ≤ i → i < e - a → rd (encL (l.map (·.2.rune))) i = bt s (a + i) := by
  induction h with
  | nil a => exact ⟨by simp [encL], fun i _ _ => by omega⟩
  | @cons a e l h r ih =>
    have hst := fst_step s a h0 h
    have z := tail_size s a h0 (by omega)
    have ih := ih (by omega) (fun p hp => hb p (List.mem_cons_of_mem _ hp))
    have hbad : (fstT (tail s a)).bad = false := hb _ (List.mem_cons_self ..)
    have hq : runT (tail s a) = bgN (bt (tail s a) 0) := by
      refine Decidable.byContradiction fun hne => ?_
      unfold fstT at hbad
      rw [if_neg hne] at hbad
      cases hbad
    have hw := whole_is (by omega) hq
    have hrune : (fstT (tail s a)).rune = valT (tail s a) (runT (tail s a)) := by unfold fstT; rw [if_pos hq]
    have hsc := whole_scal hw (Or.inr (bt_range _ 0).1)
    have hen := encB_len _ hsc.1
    have hv := enc_valT _ _ hw
    rw [fstT_size] at ih hst
    rw [List.map_cons, encL_cons, hrune, List.length_append]
    refine ⟨by omega, fun i hi hl => ?_⟩
    by_cases hc : i < runT (tail s a)
    · rw [rd_append_lt _ _ _ hi (by omega), hv i hi hc, bt_tail_ _ _ _ h0 hi]
    · rw [rd_app_ge _ _ _ (by omega), ih.2 _ (by omega) (by omega)]
      congr 1
      omega
theorem clean_same (s : ByteArray) (hb : ∀ p ∈ pcs s 0, p.2.bad = false) : encS (decT s) = s := by
  have h := enc_all s (To.all s s.size 0 (by omega) (by omega) (by omega)) (by omega) hb
  have hz : ((encS (decT s)).size : Int) = s.size := by
    rw [encS_size]
    have := h.1
    unfold decT
    omega
  refine ba_ext (by omega) fun i h0 h1 => ?_
  rw [bt_encS _ (decT_scal s) i h0]
  have := h.2 i h0 (by omega)
  rw [show (0 : Int) + i = i by omega] at this
  exact this
end Go.Proofs.YtgippjhkimohlaaDoor
