/- Desk: what is told is read back; the statements' awake. -/
import Derived.Test.YtjfdbdjcceecjaaDskG
import Derived.Test.YtjfdbdjcceecjaaDskH
set_option linter.unusedVariables false
set_option linter.unusedSimpArgs false
namespace Go.Proofs.Ytjfdbdjcceecjaa
open Go.RowKit Go.Proofs.YtjfdbdjcceecjaaW.PrintWords Go.Proofs.YtjfdbdjcceecjaaW.PrintLast
theorem rd_append_ge (l r : List Int) (i : Int) (h : (l.length : Int) ≤ i) : rd (l ++ r) i = rd r (i - l.length) := by
  unfold rd
  rw [List.getD_eq_getElem?_getD, List.getD_eq_getElem?_getD, List.getElem?_append_right (by omega)]
  congr 2
  omega
theorem toldB_range (c : Int) (h : 0 ≤ c ∧ c ≤ 255) : ∀ x ∈ toldB c, 0 ≤ x ∧ x ≤ 255 := by
  intro x hx
  unfold toldB at hx
  have r1 := bt_range hexT (c / 16)
  have r2 := bt_range hexT (c % 16)
  repeat' split at hx
  all_goals
    simp only [List.mem_cons, List.not_mem_nil, or_false] at hx
    omega
theorem toldL_range (s : ByteArray) : ∀ x ∈ toldL s, 0 ≤ x ∧ x ≤ 255 := by
  intro x hx
  unfold toldL toldU at hx
  simp only [List.mem_append, List.mem_cons, List.mem_flatMap, List.not_mem_nil, or_false] at hx
  rcases hx with (rfl | ⟨c, hc, hx⟩) | rfl
  · omega
  · exact toldB_range c (mem_bytesOf hc) x hx
  · omega
theorem toldS_size (s : ByteArray) : (toldS s).size = (toldL s).length := strOfNums_size _
theorem bt_told (s : ByteArray) (i : Int) (h0 : 0 ≤ i) : bt (toldS s) i = rd (toldL s) i := bt_strOfNums _ i h0 (toldL_range s)
theorem told_cut (s : ByteArray) (k : Nat) (h : k < s.size) : toldL s = toldU ((bytesOf s).take k) ++ (toldB (bt s k) ++ (((bytesOf s).drop (k + 1)).flatMap toldB ++ [34])) := by
  have hl : k < (bytesOf s).length := by rw [bytesOf_length]; exact h
  have hd : (bytesOf s).drop k = bt s k :: (bytesOf s).drop (k + 1) := by
    rw [List.drop_eq_getElem_cons hl]
    congr 1
    rw [← rd_bytesOf]
    simp [rd, List.getD_eq_getElem?_getD, List.getElem?_eq_getElem hl]
  unfold toldL toldU
  have e : bytesOf s = (bytesOf s).take k ++ (bytesOf s).drop k := (List.take_append_drop _ _).symm
  conv => lhs; rw [e, hd]
  simp
theorem hexV_T (d : Int) (h0 : 0 ≤ d) (h1 : d < 16) : hexV (bt hexT d) = d := by
  have key : ∀ n : Nat, n < 16 → hexV (bt hexT (n : Int)) = n := by decide +kernel
  obtain ⟨n, rfl⟩ := Int.eq_ofNat_of_zero_le h0
  exact key n (by omega)
/-- the byte of a told text, j bytes into what the byte at k is told as -/
theorem told_at (s : ByteArray) (k : Nat) (h : k < s.size) (j : Int) (h0 : 0 ≤ j) (h1 : j < (toldB (bt s k)).length) : bt (toldS s) ((toldU ((bytesOf s).take k)).length + j) = rd (toldB (bt s k)) j := by
  rw [bt_told _ _ (by omega), told_cut s k h, rd_append_ge _ _ _ (by omega), rd_append_lt _ _ _ (by omega) (by omega)]
  congr 1
  omega
theorem told_item (s : ByteArray) (k : Nat) (h : k < s.size) (p : Int) (hp : p = (toldU ((bytesOf s).take k)).length) : bt (toldS s) p ≠ 34 ∧ itemQ (toldS s) p = some (bt s k, p + (toldB (bt s k)).length) ∧ p + (toldB (bt s k)).length < (toldS s).size := by
  have hs : ((toldS s).size : Int) = p + ((toldB (bt s k)).length + (((bytesOf s).drop (k + 1)).flatMap toldB ++ [34]).length) := by
    rw [toldS_size, told_cut s k h, List.length_append, List.length_append, hp]
    omega
  have hat := fun j h0 h1 => told_at s k h j h0 h1
  rw [← hp] at hat
  have hr := bt_range s k
  have hn : 1 ≤ (((bytesOf s).drop (k + 1)).flatMap toldB ++ [34]).length := by simp
  generalize (((bytesOf s).drop (k + 1)).flatMap toldB ++ [34]).length = m at *
  generalize bt s (k : Int) = c at *
  generalize toldS s = T at *
  have hp0 : 0 ≤ p := by omega
  unfold toldB at hat hs ⊢
  by_cases q1 : c = 34 ∨ c = 92
  · rw [if_pos q1] at hat hs ⊢
    simp only [List.length_cons, List.length_nil] at hat hs ⊢
    have a0 : bt T p = 92 := by have := hat 0 (by omega) (by omega); rw [Int.add_zero] at this; exact this
    have a1 : bt T (p + 1) = c := hat 1 (by omega) (by omega)
    refine ⟨by omega, ?_, by omega⟩
    unfold itemQ
    rw [a0, a1, if_neg (by omega), if_neg (by omega), if_neg (by omega), if_pos (by rcases q1 with rfl | rfl <;> decide)]
    rcases q1 with rfl | rfl <;> rfl
  · rw [if_neg q1] at hat hs ⊢
    by_cases q2 : 32 ≤ c ∧ c ≤ 126
    · rw [if_pos q2] at hat hs ⊢
      simp only [List.length_cons, List.length_nil] at hat hs ⊢
      have a0 : bt T p = c := by have := hat 0 (by omega) (by omega); rw [Int.add_zero] at this; exact this
      refine ⟨by omega, ?_, by omega⟩
      unfold itemQ
      rw [a0, if_neg (by omega), if_pos (by omega)]
      rfl
    · rw [if_neg q2] at hat hs ⊢
      have go : ∀ d : Int, 0 ≤ escV d → (∀ j : Int, 0 ≤ j → j < 2 → bt T (p + j) = rd [92, d] j) → (T.size : Int) = p + (2 + m) → escV d = c → bt T p ≠ 34 ∧ itemQ T p = some (c, p + 2) ∧ p + 2 < T.size := fun d hd hat hs he => by
        have a0 : bt T p = 92 := by have := hat 0 (by omega) (by omega); rw [Int.add_zero] at this; exact this
        have a1 : bt T (p + 1) = d := hat 1 (by omega) (by omega)
        refine ⟨by omega, ?_, by omega⟩
        unfold itemQ
        rw [a0, a1, if_neg (by omega), if_neg (by omega), if_neg (by omega), if_pos hd, he]
      by_cases q3 : c = 10
      · subst q3
        exact go 110 (by decide) (fun j h0 h1 => hat j h0 (by simpa using h1)) (by simpa using hs) rfl
      · rw [if_neg q3] at hat hs ⊢
        by_cases q4 : c = 13
        · subst q4
          exact go 114 (by decide) (fun j h0 h1 => hat j h0 (by simpa using h1)) (by simpa using hs) rfl
        · rw [if_neg q4] at hat hs ⊢
          by_cases q5 : c = 9
          · subst q5
            exact go 116 (by decide) (fun j h0 h1 => hat j h0 (by simpa using h1)) (by simpa using hs) rfl
          · rw [if_neg q5] at hat hs ⊢
            simp only [List.length_cons, List.length_nil] at hat hs ⊢
            have a0 : bt T p = 92 := by have := hat 0 (by omega) (by omega); rw [Int.add_zero] at this; exact this
            have a1 : bt T (p + 1) = 120 := hat 1 (by omega) (by omega)
            have a2 : bt T (p + 2) = bt hexT (c / 16) := hat 2 (by omega) (by omega)
            have a3 : bt T (p + 3) = bt hexT (c % 16) := hat 3 (by omega) (by omega)
            have v1 := hexV_T (c / 16) (by omega) (by omega)
            have v2 := hexV_T (c % 16) (by omega) (by omega)
            refine ⟨by omega, ?_, by omega⟩
            unfold itemQ
            rw [a0, a1, a2, a3, v1, v2, if_neg (by omega), if_neg (by omega), if_neg (by omega), if_neg (by decide), if_neg (by rintro (g | g | g | g) <;> omega)]
            simp only [Option.some.injEq, Prod.mk.injEq]
            omega
theorem told_qR (s : ByteArray) (n : Nat) : ∀ k : Nat, k + n = s.size → qR (toldS s) (toldU ((bytesOf s).take k)).length = some ((bytesOf s).drop k, ((toldS s).size : Int)) := by
  induction n with
  | zero =>
    intro k hk
    obtain rfl : k = s.size := by omega
    have hl := bytesOf_length s
    have hz : (toldS s).size = (toldU (bytesOf s)).length + 1 := by rw [toldS_size]; unfold toldL; simp
    rw [List.take_of_length_le (by omega), List.drop_of_length_le (by omega), qR_end (by omega) ?_]
    · simp; omega
    · rw [bt_told _ _ (by omega)]
      unfold toldL
      rw [rd_append_ge _ _ _ (by omega), Int.sub_self]
      rfl
  | succ n ih =>
    intro k hk
    obtain ⟨h1, h2, h3⟩ := told_item s k (by omega) _ rfl
    have hst := told_step s k (by omega) (by omega)
    rw [show ((k : Int) + 1).toNat = k + 1 by omega, Int.toNat_natCast] at hst
    have hlen : ((toldU ((bytesOf s).take (k + 1))).length : Int) = (toldU ((bytesOf s).take k)).length + (toldB (bt s k)).length := by rw [hst, List.length_append]; omega
    have hb := (toldB_len (bt s k)).1
    have hl : k < (bytesOf s).length := by rw [bytesOf_length]; omega
    rw [qR_go (by omega) (by omega) h1 h2, ← hlen, ih (k + 1) (by omega), List.drop_eq_getElem_cons hl]
    simp only [Option.map_some, Option.some.injEq, Prod.mk.injEq, and_true, List.cons.injEq]
    rw [← rd_bytesOf]
    simp [rd, List.getD_eq_getElem?_getD, List.getElem?_eq_getElem hl]
/-- what is told is one word -/
theorem told_words (s : ByteArray) (n : Nat) : wR (n + 1) (toldS s) = some [(s, true)] := by
  have h := told_qR s s.size 0 (by omega)
  have e1 : ((toldU ((bytesOf s).take 0)).length : Int) = 1 := by simp [toldU]
  rw [e1] at h
  have hz : 0 < (toldS s).size := by rw [toldS_size]; unfold toldL; simp
  have h34 : bt (toldS s) 0 = 34 := by
    rw [bt_told _ _ (by omega)]
    rfl
  have hr : rdW (toldS s) = some (s, true, (toldS s).extract (toldS s).size (toldS s).size) := by
    unfold rdW
    rw [if_pos ⟨hz, h34⟩, h]
    simp only [List.drop_zero, Option.map_some, Option.some.injEq, Prod.mk.injEq, true_and, Int.toNat_natCast, and_true]
    exact strOfNums_bytesOf s
  rw [wR, hr]
  simp only
  rw [if_pos (by rw [size_ext _ _ _ (Nat.le_refl _)]; omega)]
theorem awake_text : wR ((ByteArray.mk #[97, 32, 34, 98, 32, 99, 34]).size + 1) ⟨#[97, 32, 34, 98, 32, 99, 34]⟩ = some [(⟨#[97]⟩, false), (⟨#[98, 32, 99]⟩, true)] := by
  have hp : plen ⟨#[97, 32, 34, 98, 32, 99, 34]⟩ = 1 := by decide +kernel
  have hr : rdW ⟨#[97, 32, 34, 98, 32, 99, 34]⟩ = some (⟨#[97]⟩, false, ⟨#[32, 34, 98, 32, 99, 34]⟩) := by
    unfold rdW
    rw [if_neg (by decide +kernel), hp, if_neg (by decide)]
    rfl
  have ht : (ByteArray.mk #[32, 34, 98, 32, 99, 34]).extract 1 (ByteArray.mk #[32, 34, 98, 32, 99, 34]).size = toldS ⟨#[98, 32, 99]⟩ := by decide +kernel
  rw [wR, hr]
  simp only
  rw [if_neg (by decide +kernel), if_neg (by decide +kernel), ht]
  show Option.map _ (wR (6 + 1) _) = _
  rw [told_words]
  rfl
theorem own_strs {w : World} {base : Nat} {v : Value} {l : List ByteArray} (h : w.ownsRow base 9 1 v l.length (strV l)) : ∃ A c, v = .slice A l.length c ∧ ReadsOf Value.string ByteArray.empty w A l.length l := own_reads_of (enc := Value.string) (d := ByteArray.empty) h
set_option maxHeartbeats 2000000 in
theorem awake_any (w : World) : Calls Try.prog 7 #[] w fun e w' => e = .returned (.bool true) ∧ Below w.heap.size w w' := by
  have h := fun W => Words_any ⟨#[97, 32, 34, 98, 32, 99, 34]⟩ W (by decide) (by rw [awake_text]; decide)
  rw [awake_text] at h
  have ht := fun W => told_any ⟨#[98]⟩ W (by decide)
  have et : toldS ⟨#[98]⟩ = ⟨#[34, 98, 34]⟩ := by decide +kernel
  rw [et] at ht
  clear et
  go_enter Try.func7, Try.ntmps7
  go_wp2_with (first
    | (go_at_call 5; (with_reducible refine (h _).mono ?_); rintro e w1 ⟨hb1, v, rfl, ho⟩; obtain ⟨A1, c1, rfl, hr⟩ := own_strs ho; obtain ⟨ad, rfl, c0⟩ := hr.at_ 1 (by decide) (by decide); rw [show (1 : Int).toNat = 0 + 1 from rfl, Addr.add_succ'] at c0; replace c0 : w1.cell? ⟨ad.block, ad.off + 1, none⟩ = some (.string ⟨#[98, 32, 99]⟩) := c0)
    | (go_at_call 8; (with_reducible refine (ht _).mono ?_); rintro e w2 ⟨rfl, hb2⟩))
  go_ret
  exact ⟨rfl, below_after hb1 hb2⟩
end Go.Proofs.Ytjfdbdjcceecjaa
