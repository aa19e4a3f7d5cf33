/- Scalar: ends of lines, what stands between them; what the printed functions on them come to. Plain. -/
import Derived.Test.YtgippjhkimohlaaDoorQScax23
import Derived.Test.YtgippjhkimohlaaDoorQScax27
import Derived.Test.YtgippjhkimohlaaDoorQScax29
import Derived.Test.YtgippjhkimohlaaDoorQScax34
set_option linter.unusedVariables false
set_option linter.unusedSimpArgs false
namespace Go.Proofs.YtgippjhkimohlaaDoor
open Go.RowKit Go.Proofs.YtgippjhkimohlaaDoorW.PrintWords Go.Proofs.YtgippjhkimohlaaDoorQ.Sca
/-- does the byte at i end a line? where does that end begin? -/
def leP (s : ByteArray) (i : Int) : Prop := bt s i = 10 ∨ (bt s i = 13 ∧ ((s.size : Int) ≤ i + 1 ∨ bt s (i + 1) ≠ 10))
instance (s : ByteArray) (i : Int) : Decidable (leP s i) := by unfold leP; infer_instance
def begE (s : ByteArray) (i : Int) : Int := if bt s i = 10 ∧ 0 < i ∧ bt s (i - 1) = 13 then i - 1 else i
/-- the ends among n bytes from i on: where each begins, and the place behind it -/
def epsF (s : ByteArray) : Nat → Int → List (Int × Int)
  | 0, _ => []
  | n + 1, i => if leP s i then (begE s i, i + 1) :: epsF s n (i + 1) else epsF s n (i + 1)
theorem epsF_len (s : ByteArray) : ∀ (n : Nat) (i : Int), (epsF s n i).length ≤ n := by
  intro n
  induction n with
  | zero => intro i; simp [epsF]
  | succ n ih =>
    intro i
    have := ih (i + 1)
    simp only [epsF]
    split
    · simp only [List.length_cons]; omega
    · omega
theorem epsF_gt (s : ByteArray) : ∀ (n : Nat) (i : Int), ∀ p ∈ epsF s n i, i < p.2 ∧ p.2 ≤ i + n := by
  intro n
  induction n with
  | zero => intro i p hp; simp [epsF] at hp
  | succ n ih =>
    intro i p hp
    simp only [epsF] at hp
    split at hp
    · rcases List.mem_cons.1 hp with rfl | hp
      · show i < i + 1 ∧ _; omega
      · have := ih (i + 1) p hp; omega
    · have := ih (i + 1) p hp; omega
set_option maxHeartbeats 1000000 in
theorem ends_l0 (s : ByteArray) (hs : s.size ≤ 1000000000) : ∀ (n k : Nat) (i : Int) (A B : List Int), (s.size : Int) - i = n → 0 ≤ i → (A.length : Int) ≤ i → (B.length : Int) ≤ i → 2 * n < k → scalar_ends.l0 k s A B (s.size : Int) i = some (A ++ (epsF s n i).map (·.2), B ++ (epsF s n i).map (·.1)) := by
  intro n
  induction n with
  | zero =>
    intro k i A B h1 h0 ha hb hk
    obtain ⟨k, rfl⟩ : ∃ m, k = m + 1 := ⟨k - 1, by omega⟩
    simp only [scalar_ends.l0, epsF]
    rw [if_neg (by omega)]
    simp
  | succ n ih =>
    intro k i A B h1 h0 ha hb hk
    obtain ⟨k, rfl⟩ : ∃ m, k = m + 1 + 1 := ⟨k - 2, by omega⟩
    have w1 : wrap64 (i + 1) = i + 1 := by unfold wrap64; omega
    have w2 : wrap64 (i - 1) = i - 1 := by unfold wrap64; omega
    have step : ∀ x, scalar_ends.l0 k s (A ++ [i + 1]) (B ++ [x]) (s.size : Int) (i + 1) = some (A ++ ((i + 1) :: (epsF s n (i + 1)).map (·.2)), B ++ (x :: (epsF s n (i + 1)).map (·.1))) := fun x => by
      rw [ih k (i + 1) _ _ (by omega) (by omega) (by rw [List.length_append, List.length_singleton]; omega) (by rw [List.length_append, List.length_singleton]; omega) (by omega)]
      simp
    have stay : scalar_ends.l0 k s A B (s.size : Int) (i + 1) = some (A ++ (epsF s n (i + 1)).map (·.2), B ++ (epsF s n (i + 1)).map (·.1)) := ih k (i + 1) _ _ (by omega) (by omega) (by omega) (by omega) (by omega)
    have hj : scalar_ends.l0 (k + 1 + 1) s A B (s.size : Int) i = scalar_ends.j1 (k + 1) s A B i (s.size : Int) i (decide (bt s i = 10 ∧ 0 < i ∧ bt s (i - 1) = 13)) := by
      rw [scalar_ends.l0]
      rw [if_pos (by omega), if_pos (by omega), if_pos (by omega)]
      by_cases c1 : bt s i = 10
      · rw [if_pos c1]
        by_cases c2 : i > 0
        · rw [if_pos c2, w2, if_pos (by omega), if_pos (by omega)]
          congr 1
          by_cases c3 : bt s (i - 1) = 13
          · rw [decide_eq_true ⟨c1, c2, c3⟩, c3]; rfl
          · rw [decide_eq_false (fun h => c3 h.2.2)]; exact beq_eq_false_iff_ne.2 c3
        · rw [if_neg c2, decide_eq_false (fun h => c2 h.2.1)]
      · rw [if_neg c1, decide_eq_false (fun h => c1 h.1)]
    rw [hj]
    by_cases hP : bt s i = 10 ∧ 0 < i ∧ bt s (i - 1) = 13
    · rw [decide_eq_true hP]
      simp only [scalar_ends.j1, if_true, epsF, w1, w2]
      rw [if_pos (by omega), if_pos (by omega), step, if_pos (show leP s i from Or.inl hP.1)]
      unfold begE
      rw [if_pos hP]
      rfl
    · have hbeg : begE s i = i := by unfold begE; rw [if_neg hP]
      rw [decide_eq_false hP]
      simp only [scalar_ends.j1, Bool.false_eq_true, if_false, epsF, w1, hbeg]
      rw [if_pos h0, if_pos (by omega)]
      by_cases c1 : bt s i = 10
      · rw [if_pos c1, if_pos (by omega), if_pos (by omega), step, if_pos (show leP s i from Or.inl c1)]
        rfl
      · rw [if_neg c1]
        by_cases c2 : bt s i = 13
        · rw [if_pos c2]
          by_cases c3 : i + 1 = s.size
          · rw [if_pos c3, if_pos (by omega), if_pos (by omega), step, if_pos (show leP s i from Or.inr ⟨c2, Or.inl (by omega)⟩)]
            rfl
          · rw [if_neg c3, if_pos (by omega), if_pos (by omega)]
            by_cases c4 : bt s (i + 1) = 10
            · rw [if_pos c4, stay, if_neg]
              intro h
              rcases h with h | ⟨_, h | h⟩
              · exact c1 h
              · omega
              · exact h c4
            · rw [if_neg c4, if_pos (by omega), if_pos (by omega), step, if_pos (show leP s i from Or.inr ⟨c2, Or.inr c4⟩)]
              rfl
        · rw [if_neg c2, stay, if_neg]
          intro h
          rcases h with h | h
          · exact c1 h
          · exact c2 h.1
def eps (s : ByteArray) : List (Int × Int) := epsF s s.size 0
theorem ends_is (s : ByteArray) (hs : s.size ≤ 1000000000) (k : Nat) (hk : 2 * s.size < k) : scalar_ends.f k s = some ((eps s).map (·.2), (eps s).map (·.1)) := by
  unfold scalar_ends.f eps
  have := ends_l0 s hs s.size k 0 [] [] (by omega) (by omega) (by simp) (by simp) hk
  simpa using this
/-! ### lines -/
def cutsF (s : ByteArray) : Int → List (Int × Int) → List ByteArray
  | f, [] => [s.extract f.toNat s.size]
  | f, p :: l => s.extract f.toNat p.1.toNat :: cutsF s p.2 l
def okE (s : ByteArray) : Int → List (Int × Int) → Prop
  | f, [] => 0 ≤ f ∧ f ≤ s.size
  | f, p :: l => 0 ≤ f ∧ f ≤ p.1 ∧ p.1 ≤ s.size ∧ okE s p.2 l
theorem cutsF_len (s : ByteArray) : ∀ (l : List (Int × Int)) (f : Int), (cutsF s f l).length = l.length + 1 := by
  intro l
  induction l with
  | nil => intro f; rfl
  | cons p l ih => intro f; simp only [cutsF, List.length_cons, ih]
/-- where the last line began, seen from i: an end of two bytes is not cut -/
def Fro (s : ByteArray) (i f : Int) : Prop := 0 ≤ f ∧ f ≤ i ∧ (0 < i → bt s i = 10 → bt s (i - 1) = 13 → f < i)
theorem Fro.next {s : ByteArray} {i : Int} (h0 : 0 ≤ i) (hl : i < s.size) (h : leP s i) : Fro s (i + 1) (i + 1) := by
  refine ⟨by omega, by omega, fun _ h1 h2 => ?_⟩
  rw [show i + 1 - 1 = i by omega] at h2
  rcases h with h | ⟨_, h | h⟩
  · omega
  · rw [bt_out s (i + 1) h] at h1; omega
  · exact absurd h1 h
theorem Fro.stay {s : ByteArray} {i f : Int} (h : Fro s i f) : Fro s (i + 1) f := ⟨h.1, by have := h.2.1; omega, fun _ _ _ => by have := h.2.1; omega⟩
theorem Fro.beg {s : ByteArray} {i f : Int} (h : Fro s i f) : f ≤ begE s i ∧ begE s i ≤ i := by
  obtain ⟨h0, h1, h2⟩ := h
  unfold begE
  split
  · rename_i hc
    have := h2 hc.2.1 hc.1 hc.2.2
    omega
  · omega
theorem eps_ok (s : ByteArray) : ∀ (n : Nat) (i f : Int), (s.size : Int) - i = n → 0 ≤ i → Fro s i f → okE s f (epsF s n i) := by
  intro n
  induction n with
  | zero => intro i f h1 h0 hF; exact ⟨hF.1, by have := hF.2.1; omega⟩
  | succ n ih =>
    intro i f h1 h0 hF
    have hb := hF.beg
    simp only [epsF]
    split
    · rename_i hc
      exact ⟨hF.1, hb.1, by show begE s i ≤ _; omega, ih (i + 1) (i + 1) (by omega) (by omega) (Fro.next h0 (by omega) hc)⟩
    · exact ih (i + 1) f (by omega) (by omega) hF.stay
theorem drop_pr (l : List (Int × Int)) (i : Nat) (h : i < l.length) : l.drop i = l.getD i (0, 0) :: l.drop (i + 1) := by
  rw [List.drop_eq_getElem_cons h, List.getD_eq_getElem?_getD, List.getElem?_eq_getElem h]
  rfl
theorem rd_fst (l : List (Int × Int)) (i : Nat) (h : i < l.length) : rd (l.map (·.1)) (i : Int) = (l.getD i (0, 0)).1 := by
  unfold rd
  simp only [Int.toNat_natCast, List.getD_eq_getElem?_getD, List.getElem?_map, List.getElem?_eq_getElem h]
  rfl
theorem rd_snd (l : List (Int × Int)) (i : Nat) (h : i < l.length) : rd (l.map (·.2)) (i : Int) = (l.getD i (0, 0)).2 := by
  unfold rd
  simp only [Int.toNat_natCast, List.getD_eq_getElem?_getD, List.getElem?_map, List.getElem?_eq_getElem h]
  rfl
theorem Lines_l0 (s : ByteArray) (l : List (Int × Int)) (hl : l.length ≤ 1000000000) : ∀ (n k j : Nat) (acc : List ByteArray) (f : Int), l.length - j = n → j ≤ l.length → okE s f (l.drop j) → acc.length ≤ j → n < k → scalar_Lines.l0 k s (l.map (·.1)) acc f (l.map (·.2)) (l.length : Int) (j : Int) = some (acc ++ cutsF s f (l.drop j)) := by
  intro n
  induction n with
  | zero =>
    intro k j acc f h1 h2 ho ha hk
    obtain ⟨k, rfl⟩ : ∃ m, k = m + 1 := ⟨k - 1, by omega⟩
    rw [List.drop_of_length_le (by omega)] at ho ⊢
    simp only [scalar_Lines.l0]
    rw [if_neg (by omega), if_pos ho.1, if_pos ho.2, if_pos (by omega)]
    rfl
  | succ n ih =>
    intro k j acc f h1 h2 ho ha hk
    obtain ⟨k, rfl⟩ : ∃ m, k = m + 1 := ⟨k - 1, by omega⟩
    rw [drop_pr l j (by omega)] at ho ⊢
    obtain ⟨o1, o2, o3, o4⟩ := ho
    simp only [scalar_Lines.l0, rd_fst l j (by omega), rd_snd l j (by omega)]
    rw [if_pos (by omega), if_pos (by omega), if_pos (by rw [List.length_map]; omega), if_pos (by rw [List.length_map]; omega), if_pos o1, if_pos o2, if_pos o3, if_pos (by omega), show wrap64 ((j : Int) + 1) = ((j + 1 : Nat) : Int) by unfold wrap64; omega, ih k (j + 1) _ _ (by omega) (by omega) o4 (by rw [List.length_append, List.length_singleton]; omega) (by omega)]
    simp [cutsF]
theorem Fro.zero (s : ByteArray) : Fro s 0 0 := ⟨by omega, by omega, fun h => by omega⟩
def linT (s : ByteArray) : List ByteArray := cutsF s 0 (eps s)
theorem Lines_is (s : ByteArray) (hs : s.size ≤ 1000000000) (k : Nat) (hk : 2 * s.size < k) : scalar_Lines.f k s = some (linT s) := by
  unfold scalar_Lines.f linT
  have hle := epsF_len s s.size 0
  rw [ends_is s hs k hk]
  simp only [Option.bind_some, List.length_map]
  have := Lines_l0 s (eps s) (by unfold eps; omega) (eps s).length k 0 [] 0 (by omega) (by omega) (by rw [List.drop_zero]; exact eps_ok s s.size 0 0 (by omega) (by omega) (Fro.zero s)) (by simp) (by unfold eps; omega)
  rw [List.drop_zero] at this
  simpa using this
set_option maxHeartbeats 1000000 in
theorem RLines_l0 (s : ByteArray) (hs : s.size ≤ 1000000000) : ∀ (n k : Nat) (i f : Int) (acc : List ByteArray), (s.size : Int) - i = n → 0 ≤ i → Fro s i f → (acc.length : Int) ≤ i → n < k → posternref02_Lines.l0 k s acc f i = some (acc ++ cutsF s f (epsF s n i)) := by
  intro n
  induction n with
  | zero =>
    intro k i f acc h1 h0 hF ha hk
    obtain ⟨k, rfl⟩ : ∃ m, k = m + 1 := ⟨k - 1, by omega⟩
    simp only [posternref02_Lines.l0, epsF]
    rw [if_neg (by omega), if_pos hF.1, if_pos (by have := hF.2.1; omega), if_pos (by omega)]
    rfl
  | succ n ih =>
    intro k i f acc h1 h0 hF ha hk
    obtain ⟨k, rfl⟩ : ∃ m, k = m + 1 := ⟨k - 1, by omega⟩
    have w1 : wrap64 (i + 1) = i + 1 := by unfold wrap64; omega
    have w2 : wrap64 (i - 1) = i - 1 := by unfold wrap64; omega
    have hb := hF.beg
    have hf0 := hF.1
    have hf1 := hF.2.1
    have step : leP s i → ∀ b, posternref02_Lines.l0 k s (acc ++ [b]) (i + 1) (i + 1) = some (acc ++ (b :: cutsF s (i + 1) (epsF s n (i + 1)))) := fun hc b => by
      rw [ih k (i + 1) (i + 1) _ (by omega) (by omega) (Fro.next h0 (by omega) hc) (by rw [List.length_append, List.length_singleton]; omega) (by omega)]
      simp
    have stay : posternref02_Lines.l0 k s acc f (i + 1) = some (acc ++ cutsF s f (epsF s n (i + 1))) := ih k (i + 1) f _ (by omega) (by omega) hF.stay (by omega) (by omega)
    rw [posternref02_Lines.l0]
    simp only [epsF, w1, w2]
    rw [if_pos (by omega), if_pos h0]
    by_cases c1 : bt s i = 10
    · have hc : leP s i := Or.inl c1
      rw [if_pos c1, if_pos hc]
      by_cases c2 : i > f
      · rw [if_pos c2, if_pos (by omega), if_pos (by omega)]
        by_cases c3 : bt s (i - 1) = 13
        · have hbeg : begE s i = i - 1 := by unfold begE; rw [if_pos ⟨c1, by omega, c3⟩]
          rw [if_pos c3, if_pos hf0, if_pos (by omega), if_pos (by omega), if_pos (by omega), step hc, hbeg]
          rfl
        · have hbeg : begE s i = i := by unfold begE; rw [if_neg (fun h => c3 h.2.2)]
          rw [if_neg c3, if_pos hf0, if_pos (by omega), if_pos (by omega), if_pos (by omega), step hc, hbeg]
          rfl
      · have hbeg : begE s i = i := by omega
        rw [if_neg c2, if_pos hf0, if_pos (by omega), if_pos (by omega), if_pos (by omega), step hc, hbeg]
        rfl
    · have hbeg : begE s i = i := by unfold begE; rw [if_neg (fun h => c1 h.1)]
      rw [if_neg c1]
      by_cases c2 : bt s i = 13
      · rw [if_pos c2]
        by_cases c3 : i + 1 = s.size
        · have hc : leP s i := Or.inr ⟨c2, Or.inl (by omega)⟩
          rw [if_pos c3, if_pos hf0, if_pos (by omega), if_pos (by omega), if_pos (by omega), step hc, if_pos hc, hbeg]
          rfl
        · rw [if_neg c3, if_pos (by omega), if_pos (by omega)]
          by_cases c4 : bt s (i + 1) = 10
          · rw [if_pos c4, stay, if_neg]
            intro h
            rcases h with h | ⟨_, h | h⟩
            · exact c1 h
            · omega
            · exact h c4
          · have hc : leP s i := Or.inr ⟨c2, Or.inr c4⟩
            rw [if_neg c4, if_pos hf0, if_pos (by omega), if_pos (by omega), if_pos (by omega), step hc, if_pos hc, hbeg]
            rfl
      · rw [if_neg c2, stay, if_neg]
        intro h
        rcases h with h | h
        · exact c1 h
        · exact c2 h.1
theorem RLines_is (s : ByteArray) (hs : s.size ≤ 1000000000) (k : Nat) (hk : s.size < k) : posternref02_Lines.f k s = some (linT s) := by
  unfold posternref02_Lines.f linT eps
  have := RLines_l0 s hs s.size k 0 0 [] (by omega) (by omega) (Fro.zero s) (by simp) hk
  simpa using this
/-! ### how many ends stand wholly ahead of a place, and where the last one ends -/
def foldE (at_ : Int) (l : List (Int × Int)) (st : Int × Int) : Int × Int := l.foldl (fun st p => if p.2 ≤ at_ then (st.1 + 1, p.2) else st) st
theorem foldE_none {at_ : Int} {l : List (Int × Int)} (h : ∀ p ∈ l, at_ < p.2) (st : Int × Int) : foldE at_ l st = st := by
  induction l with
  | nil => rfl
  | cons p l ih =>
    unfold foldE
    rw [List.foldl_cons, if_neg (by have := h p (List.mem_cons_self ..); omega)]
    exact ih (fun q hq => h q (List.mem_cons_of_mem _ hq))
theorem foldE_cons (at_ : Int) (p : Int × Int) (l : List (Int × Int)) (st : Int × Int) : foldE at_ (p :: l) st = foldE at_ l (if p.2 ≤ at_ then (st.1 + 1, p.2) else st) := rfl
theorem ended_l0 (s : ByteArray) (hs : s.size ≤ 1000000000) (at_ : Int) (ha : at_ ≤ s.size) : ∀ (n k : Nat) (i c f : Int), (s.size : Int) - i = n → 0 ≤ i → i ≤ at_ → 0 ≤ c → c ≤ i → n < k → posternref02_ended.l0 k s at_ c f i = some (foldE at_ (epsF s n i) (c, f)) := by
  intro n
  induction n with
  | zero =>
    intro k i c f h1 h0 hi hc0 hc hk
    obtain ⟨k, rfl⟩ : ∃ m, k = m + 1 := ⟨k - 1, by omega⟩
    simp only [posternref02_ended.l0, epsF]
    rw [if_neg (by omega)]
    rfl
  | succ n ih =>
    intro k i c f h1 h0 hi hc0 hc hk
    obtain ⟨k, rfl⟩ : ∃ m, k = m + 1 := ⟨k - 1, by omega⟩
    by_cases hlt : i < at_
    · have w1 : wrap64 (i + 1) = i + 1 := by unfold wrap64; omega
      have w2 : wrap64 (c + 1) = c + 1 := by unfold wrap64; omega
      have step : posternref02_ended.l0 k s at_ (c + 1) (i + 1) (i + 1) = some (foldE at_ ((begE s i, i + 1) :: epsF s n (i + 1)) (c, f)) := by
        rw [ih k (i + 1) (c + 1) (i + 1) (by omega) (by omega) (by omega) (by omega) (by omega) (by omega), foldE_cons, if_pos (show i + 1 ≤ at_ by omega)]
      have stay : posternref02_ended.l0 k s at_ c f (i + 1) = some (foldE at_ (epsF s n (i + 1)) (c, f)) := ih k (i + 1) c f (by omega) (by omega) (by omega) (by omega) (by omega) (by omega)
      rw [posternref02_ended.l0]
      simp only [epsF, w1, w2]
      rw [if_pos hlt, if_pos h0, if_pos (by omega)]
      by_cases c1 : bt s i = 10
      · rw [if_pos c1, step, if_pos (show leP s i from Or.inl c1)]
      · rw [if_neg c1]
        by_cases c2 : bt s i = 13
        · rw [if_pos c2]
          by_cases c3 : i + 1 ≥ s.size
          · rw [if_pos c3, step, if_pos (show leP s i from Or.inr ⟨c2, Or.inl (by omega)⟩)]
          · rw [if_neg c3, if_pos (by omega), if_pos (by omega)]
            by_cases c4 : bt s (i + 1) = 10
            · rw [if_pos c4, stay, if_neg]
              intro h
              rcases h with h | ⟨_, h | h⟩
              · exact c1 h
              · omega
              · exact h c4
            · rw [if_neg c4, step, if_pos (show leP s i from Or.inr ⟨c2, Or.inr c4⟩)]
        · rw [if_neg c2, stay, if_neg]
          intro h
          rcases h with h | h
          · exact c1 h
          · exact c2 h.1
    · rw [posternref02_ended.l0, if_neg hlt, foldE_none (fun p hp => by have := epsF_gt s (n + 1) i p hp; omega)]
theorem ended_is (s : ByteArray) (hs : s.size ≤ 1000000000) (at_ : Int) (h0 : 0 ≤ at_) (ha : at_ ≤ s.size) (k : Nat) (hk : s.size < k) : posternref02_ended.f k s at_ = some (foldE at_ (eps s) (0, 0)) := by
  unfold posternref02_ended.f eps
  exact ended_l0 s hs at_ ha s.size k 0 0 0 (by omega) (by omega) h0 (by omega) (by omega) hk
end Go.Proofs.YtgippjhkimohlaaDoor
