/- ScalarCompares: what is left when the program is gone; the walk. -/
import Derived.Test.YtgippjhkimohlaaDoorCmpC
import Derived.Test.YtgippjhkimohlaaDoorQCmpx3
import Derived.Test.YtgippjhkimohlaaDoorQCmpx2
import Derived.Test.YtgippjhkimohlaaDoorQCmpx1
import Derived.Test.YtgippjhkimohlaaDoorQCmpx0
set_option linter.unusedVariables false
set_option linter.unusedSimpArgs false
namespace Go.Proofs.YtgippjhkimohlaaDoor
open Go.RowKit Go.Proofs.YtgippjhkimohlaaDoorW.PrintWords Go.Proofs.YtgippjhkimohlaaDoorQ.Cmp
theorem RScalar_is (r : Int) : posternref02_Scalar.f r = some (scal r) := by
  unfold posternref02_Scalar.f
  by_cases h0 : r ≥ 0
  · rw [if_pos h0]
    by_cases h1 : r < 55296
    · rw [if_pos h1, scal_is (b := true) (by simp; omega)]
    · rw [if_neg h1]
      by_cases h2 : r > 57343
      · rw [if_pos h2, scal_is (b := decide (r ≤ 1114111)) (by simp; omega)]
      · rw [if_neg h2, scal_is (b := false) (by simp; omega)]
  · rw [if_neg h0, if_neg (by omega), scal_is (b := false) (by simp; omega)]
theorem RUnits_l0 (l : List Int) (m : Nat) (hm : StopAt l m) (hl : l.length ≤ 9000000000000) : ∀ (n k i : Nat), m - i = n → i ≤ m → n + 2 < k → posternref02_Units.l0 k (untL (l.take i)) l (l.length : Int) (i : Int) = some (untA l m) := by
  intro n
  have hle := hm.le
  induction n with
  | zero =>
    intro k i h1 h2 hk
    obtain ⟨k, rfl⟩ : ∃ m, k = m + 1 := ⟨k - 1, by omega⟩
    obtain rfl : i = m := by omega
    simp only [posternref02_Units.l0]
    unfold untA
    by_cases he : i = l.length
    · rw [if_neg (by omega), if_pos he, he, List.take_length]
    · have hs := hm.stop (by omega)
      rw [if_pos (by omega), if_pos (by omega), if_pos (by omega), RScalar_is _, hs, if_neg he]
      rfl
  | succ n ih =>
    intro k i h1 h2 hk
    obtain ⟨k, rfl⟩ : ∃ m, k = m + 1 := ⟨k - 1, by omega⟩
    have hs := hm.at_ i (by omega)
    have ht := take_rd l i (by omega)
    have hlen := untL_take_len l i
    have ih := ih k (i + 1) (by omega) (by omega) (by omega)
    rw [ht, untL_app, untL_one] at ih
    simp only [posternref02_Units.l0]
    rw [if_pos (by omega), if_pos (by omega), if_pos (by omega), RScalar_is _, hs]
    have hr := (scal_iff _).1 hs
    generalize rd l (i : Int) = r at *
    simp only [Option.bind_some, if_true]
    rw [show wrap64 ((i : Int) + 1) = ((i + 1 : Nat) : Int) by unfold wrap64; omega]
    unfold untB at ih
    by_cases hp : r < 65536
    · rw [if_pos hp] at ih ⊢
      rw [if_pos (by omega), u16_in r (by omega)]
      exact ih
    · rw [if_neg hp] at ih ⊢
      rw [show wrap32 (r - 65536) = r - 65536 by unfold wrap32; omega, Int.tdiv_eq_ediv_of_nonneg (by omega), Int.tmod_eq_emod_of_nonneg (by omega), show wrap32 ((r - 65536) / 1024) = (r - 65536) / 1024 by unfold wrap32; omega, show wrap32 (55296 + (r - 65536) / 1024) = 55296 + (r - 65536) / 1024 by unfold wrap32; omega, show wrap32 (56320 + (r - 65536) % 1024) = 56320 + (r - 65536) % 1024 by unfold wrap32; omega, u16_in _ (by omega), u16_in _ (by omega), if_pos (by simp only [List.length_cons, List.length_nil]; omega)]
      exact ih
theorem RUnits_is (l : List Int) (m : Nat) (hm : StopAt l m) (hl : l.length ≤ 9000000000000) (k : Nat) (hk : l.length + 2 < k) : posternref02_Units.f k l = some (untA l m) := by
  unfold posternref02_Units.f
  exact RUnits_l0 l m hm hl m k 0 (by omega) (by omega) (by have := hm.le; omega)
theorem RUnits_all (l : List Int) (h : ∀ r ∈ l, scal r = true) (hl : l.length ≤ 9000000000000) (k : Nat) (hk : l.length + 2 < k) : posternref02_Units.f k l = some (untL l, 0, 0) := by
  rw [RUnits_is l l.length (StopAt.full h) hl _ hk]
  unfold untA
  rw [if_pos rfl]
theorem rcmp_l0 (X Y : List Int) (hX : X.length ≤ 1000000000) (hY : Y.length ≤ 1000000000) : ∀ (n i k : Nat), X.length - i = n → i ≤ X.length → i ≤ Y.length → 2 * n + 2 ≤ k → posternref02_Compare.l0 k X Y (i : Int) = some (cmpL (X.drop i) (Y.drop i)) := by
  have fin : ∀ (i k : Nat), i ≤ X.length → i ≤ Y.length → (i = X.length ∨ i = Y.length) → posternref02_Compare.j1 (k + 1) X Y (i : Int) false = some (cmpL (X.drop i) (Y.drop i)) := by
    intro i k h1 h2 h3
    rw [posternref02_Compare.j1, if_neg (by simp), cmpL_end (by rcases h3 with h3 | h3; exact Or.inl (List.drop_of_length_le (by omega)); exact Or.inr (List.drop_of_length_le (by omega))), List.length_drop, List.length_drop]
    by_cases g : (X.length : Int) < Y.length
    · rw [if_pos g, if_pos (show ((X.length - i : Nat) : Int) < ((Y.length - i : Nat) : Int) by omega)]
    · rw [if_neg g, if_neg (show ¬ ((X.length - i : Nat) : Int) < ((Y.length - i : Nat) : Int) by omega)]
      by_cases g2 : (X.length : Int) > Y.length
      · rw [if_pos g2, if_pos (show ((X.length - i : Nat) : Int) > ((Y.length - i : Nat) : Int) by omega)]
      · rw [if_neg g2, if_neg (show ¬ ((X.length - i : Nat) : Int) > ((Y.length - i : Nat) : Int) by omega)]
  intro n
  induction n with
  | zero =>
    intro i k h h1 h2 hk
    obtain ⟨k, rfl⟩ : ∃ m, k = m + 2 := ⟨k - 2, by omega⟩
    rw [posternref02_Compare.l0, if_neg (by omega)]
    exact fin i k h1 h2 (Or.inl (by omega))
  | succ n ih =>
    intro i k h h1 h2 hk
    obtain ⟨k, rfl⟩ : ∃ m, k = m + 2 := ⟨k - 2, by omega⟩
    rw [posternref02_Compare.l0, if_pos (by omega)]
    by_cases hy : i < Y.length
    · rw [decide_eq_true (by omega), posternref02_Compare.j1, if_pos rfl, if_pos (by omega), if_pos (by omega), if_pos (by omega), cmpL_drop X Y i (by omega) hy]
      by_cases g : rd X i < rd Y i
      · rw [if_pos g, if_pos g]
      · rw [if_neg g, if_neg g]
        by_cases g2 : rd X i > rd Y i
        · rw [if_pos g2, if_pos g2]
        · rw [if_neg g2, if_neg g2, show wrap64 ((i : Int) + 1) = ((i + 1 : Nat) : Int) by unfold wrap64; omega]
          exact ih (i + 1) k (by omega) (by omega) (by omega) (by omega)
    · rw [decide_eq_false (by omega)]
      exact fin i k h1 h2 (Or.inr (by omega))
theorem RCompare_is (a b : ByteArray) (ha : a.size ≤ 1048576) (hb : b.size ≤ 1048576) (k : Nat) (hk : 10000000000 ≤ k) : posternref02_Compare.f k a b = some (cmpS a b) := by
  have h1 := decT_len2 a
  have h2 := decT_len2 b
  have h3 := untL_len (decT a)
  have h4 := untL_len (decT b)
  unfold posternref02_Compare.f posternref02_Decode.f
  rw [if_pos (by omega)]
  simp only [Option.bind_some]
  rw [RUnits_all _ (decT_scal a) (by omega) k (by omega)]
  simp only [Option.bind_some]
  rw [if_pos (by omega)]
  simp only [Option.bind_some]
  rw [RUnits_all _ (decT_scal b) (by omega) k (by omega)]
  simp only [Option.bind_some]
  exact rcmp_l0 _ _ (by omega) (by omega) _ 0 k rfl (by omega) (by omega) (by omega)
theorem rd_mem {l : List Int} {i : Nat} (h : i < l.length) : rd l i ∈ l := by
  have e : rd l i = l[i] := by simp [rd, List.getD_eq_getElem?_getD, List.getElem?_eq_getElem h]
  rw [e]; exact List.getElem_mem _
theorem u16w (x : Int) (h0 : 0 ≤ x) (h1 : x ≤ 65535) : IntKind.u16.wrap x = x := by rw [IntKind.wrap_u16]; omega
theorem resc_l1 (L : List Int) (i : Nat) (hi : i < 100000000) (U : List Int) (hU : ∀ x ∈ U, 0 ≤ x ∧ x ≤ 65535) (hUl : U.length ≤ 2) : ∀ (n j k : Nat) (Q : List Int), U.length - j = n → j ≤ U.length → Q.length + 6 * n ≤ 1000000000 → n + 1 ≤ k →
    posternref02_Escape.l1 k Q L L.length (i : Int) U U.length (j : Int) = posternref02_Escape.l0 (k - (n + 1)) (Q ++ (U.drop j).flatMap escU) L L.length ((i + 1 : Nat) : Int) := by
  intro n
  induction n with
  | zero =>
    intro j k Q h h1 h2 hk
    obtain ⟨k, rfl⟩ : ∃ m, k = m + 1 := ⟨k - 1, by omega⟩
    rw [posternref02_Escape.l1, if_neg (by omega), List.drop_of_length_le (by omega), show wrap64 ((i : Int) + 1) = ((i + 1 : Nat) : Int) by unfold wrap64; omega]
    simp
  | succ n ih =>
    intro j k Q h h1 h2 hk
    obtain ⟨k, rfl⟩ : ∃ m, k = m + 1 := ⟨k - 1, by omega⟩
    have hu := hU _ (rd_mem (l := U) (i := j) (by omega))
    rw [posternref02_Escape.l1, if_pos (by omega), if_pos (by omega), if_pos (by omega), drop_rd U j (by omega), List.flatMap_cons]
    generalize rd U j = u at *
    have e1 : Int.tdiv u 4096 = u / 4096 := Int.tdiv_eq_ediv_of_nonneg hu.1
    have e2 : Int.tdiv u 256 = u / 256 := Int.tdiv_eq_ediv_of_nonneg hu.1
    have e3 : Int.tdiv u 16 = u / 16 := Int.tdiv_eq_ediv_of_nonneg hu.1
    rw [e1, e2, e3, u16w (u / 4096) (by omega) (by omega), u16w (u / 256) (by omega) (by omega), u16w (u / 16) (by omega) (by omega), Int.tmod_eq_emod_of_nonneg (show 0 ≤ u / 256 by omega), Int.tmod_eq_emod_of_nonneg (show 0 ≤ u / 16 by omega), Int.tmod_eq_emod_of_nonneg hu.1]
    rw [if_pos (by omega), if_pos (by omega), if_pos (by omega), if_pos (by omega), if_pos (by omega), if_pos (by omega), if_pos (by omega), if_pos (by omega)]
    simp only [Option.bind_some]
    rw [if_pos (by simp only [List.length_cons, List.length_nil]; omega), show wrap64 ((j : Int) + 1) = ((j + 1 : Nat) : Int) by unfold wrap64; omega]
    rw [ih (j + 1) k _ (by omega) (by omega) (by simp only [List.length_append, List.length_cons, List.length_nil]; omega) (by omega), List.append_assoc]
    congr 1
    omega
theorem escL_cons (r : Int) (l : List Int) : escL (r :: l) = escB r ++ escL l := by unfold escL; rw [List.flatMap_cons]
theorem resc_l0 (L : List Int) (hL : ∀ r ∈ L, scal r = true) (hLl : L.length ≤ 1048576) : ∀ (n i k : Nat) (Q : List Int), L.length - i = n → i ≤ L.length → Q.length + 12 * n ≤ 1000000000 → 8 * n + 20 ≤ k → posternref02_Escape.l0 k Q L L.length (i : Int) = some (strOfNums (Q ++ escL (L.drop i))) := by
  intro n
  induction n with
  | zero =>
    intro i k Q h h1 h2 hk
    obtain ⟨k, rfl⟩ : ∃ m, k = m + 1 := ⟨k - 1, by omega⟩
    rw [posternref02_Escape.l0, if_neg (by omega), List.drop_of_length_le (by omega)]
    simp [escL]
  | succ n ih =>
    intro i k Q h h1 h2 hk
    obtain ⟨k, rfl⟩ : ∃ m, k = m + 2 := ⟨k - 2, by omega⟩
    have hs := hL _ (rd_mem (l := L) (i := i) (by omega))
    have hw : wrap64 ((i : Int) + 1) = ((i + 1 : Nat) : Int) := by unfold wrap64; omega
    rw [posternref02_Escape.l0, if_pos (by omega), if_pos (by omega), if_pos (by omega), drop_rd L i (by omega), escL_cons]
    generalize rd L i = r at *
    have hbl := escB_len r
    have hyes : 32 ≤ r ∧ r ≤ 126 ∧ r ≠ 92 → posternref02_Escape.j1 (k + 1) Q r L L.length (i : Int) true = some (strOfNums (Q ++ (escB r ++ escL (L.drop (i + 1))))) := by
      intro hq
      have he : escB r = [r] := by unfold escB; rw [if_pos hq]
      rw [posternref02_Escape.j1, if_pos rfl, if_pos (by omega), hw, show r % 256 = r by omega, ih (i + 1) k _ (by omega) (by omega) (by simp only [List.length_append, List.length_cons, List.length_nil]; omega) (by omega), he, List.append_assoc]
    have hno : ¬ (32 ≤ r ∧ r ≤ 126 ∧ r ≠ 92) → posternref02_Escape.j1 (k + 1) Q r L L.length (i : Int) false = some (strOfNums (Q ++ (escB r ++ escL (L.drop (i + 1))))) := by
      intro hq
      have he : escB r = (untB r).flatMap escU := by unfold escB; rw [if_neg hq]
      have hul := untB_len r
      have hur : ∀ x ∈ untB r, 0 ≤ x ∧ x ≤ 65535 := fun x hx => untL_range [r] (fun y hy => by rw [List.mem_singleton.1 hy]; exact hs) x (by rw [untL_one]; exact hx)
      rw [posternref02_Escape.j1, if_neg (by simp), RUnits_all [r] (fun y hy => by rw [List.mem_singleton.1 hy]; exact hs) (by simp) k (by simp; omega), untL_one]
      simp only [Option.bind_some]
      have h0 := resc_l1 L i (by omega) (untB r) hur hul.2 (untB r).length 0 k Q (by omega) (by omega) (by omega) (by omega)
      rw [List.drop_zero, ← he] at h0
      have h0' : posternref02_Escape.l1 k Q L L.length (i : Int) (untB r) (untB r).length 0 = _ := h0
      rw [h0', ih (i + 1) _ _ (by omega) (by omega) (by rw [List.length_append]; omega) (by omega), List.append_assoc]
    by_cases c1 : r ≥ 32
    · rw [if_pos c1]
      by_cases c2 : r ≤ 126
      · rw [if_pos c2]
        by_cases c3 : r = 92
        · rw [show (r != 92) = false from bne_eq_false_iff_eq.2 c3]
          exact hno (fun e => e.2.2 c3)
        · rw [show (r != 92) = true from bne_iff_ne.2 c3]
          exact hyes ⟨c1, c2, c3⟩
      · rw [if_neg c2]
        exact hno (fun e => c2 e.2.1)
    · rw [if_neg c1]
      exact hno (fun e => c1 e.1)
theorem REscape_is (a : ByteArray) (ha : a.size ≤ 1048576) (k : Nat) (hk : 10000000000 ≤ k) : posternref02_Escape.f k a = some (strOfNums (escL (decT a))) := by
  have h1 := decT_len2 a
  unfold posternref02_Escape.f posternref02_Decode.f
  rw [if_pos (by omega)]
  simp only [Option.bind_some]
  have := resc_l0 (decT a) (decT_scal a) (by omega) _ 0 k [] rfl (by omega) (by simp; omega) (by omega)
  rw [List.drop_zero, List.nil_append] at this
  exact this
theorem toList_loop (s : ByteArray) : ∀ (n i : Nat) (r : List UInt8), s.size - i = n → ByteArray.toList.loop s i r = r.reverse ++ s.data.toList.drop i := by
  intro n
  induction n with
  | zero =>
    intro i r h
    unfold ByteArray.toList.loop
    have h2 : s.data.toList.length = s.size := by rw [Array.length_toList]; rfl
    rw [if_neg (by omega), List.drop_of_length_le (by omega), List.append_nil]
  | succ n ih =>
    intro i r h
    have h2 : s.data.toList.length = s.size := by rw [Array.length_toList]; rfl
    unfold ByteArray.toList.loop
    have hlt : i < s.data.size := by have : s.data.size = s.size := rfl; omega
    rw [if_pos (by omega), ih (i + 1) _ (by omega), List.reverse_cons, List.append_assoc, List.drop_eq_getElem_cons (show i < s.data.toList.length by rw [Array.length_toList]; exact hlt)]
    congr 1
    simp only [List.singleton_append, List.cons.injEq, and_true]
    show s.data[i]! = _
    rw [getElem!_pos s.data i hlt]
    simp
theorem toList_eq (s : ByteArray) : s.toList = s.data.toList := by
  rw [ByteArray.toList, toList_loop s _ 0 [] rfl]
  rfl
theorem compares_f (K : Nat) (hK : 10000000002 ≤ K) (a b c : ByteArray) (ha : a.size ≤ 1048576) (hb : b.size ≤ 1048576) (hc : c.size ≤ 1048576) : posternlaw02_ScalarCompares.f K a b c = some true := by
  obtain ⟨K, rfl⟩ : ∃ m, K = m + 1 := ⟨K - 1, by omega⟩
  have hcm : ∀ x y : ByteArray, x.size ≤ 1048576 → y.size ≤ 1048576 → scalar_Compare.f x y = some (cmpS x y) := fun x y hx hy => by
    unfold scalar_Compare.f
    rw [if_pos ⟨by omega, by omega⟩]
  have hcl : ∀ x : ByteArray, x.size ≤ 1048576 → scalar_Clean.f x = some (encS (decT x)) := fun x hx => by
    unfold scalar_Clean.f
    rw [if_pos (by omega)]
  have hE : scalar_Escape.f a = some (strOfNums (escL (decT a))) := by
    unfold scalar_Escape.f
    rw [if_pos ha]
  have hanti : cmpS b a = -cmpS a b := cmpL_anti _ _
  have hr : cmpS a b = -1 ∨ cmpS a b = 0 ∨ cmpS a b = 1 := cmpL_rng _ _
  have htr : cmpS a b = cmpS b c → cmpS a c = cmpS a b := cmpL_trans _ _ _
  have hz : cmpS a b = 0 ↔ decT a = decT b := by
    unfold cmpS
    rw [cmpL_zero]
    exact ⟨untL_inj _ _ (decT_scal a) (decT_scal b), fun e => by rw [e]⟩
  have hcle : ((cmpS a b == 0) != ((encS (decT a)).toList == (encS (decT b)).toList)) = false := by
    by_cases h : decT a = decT b
    · have h0 := hz.2 h
      rw [h0, h]
      simp
    · have h0 : ¬ cmpS a b = 0 := fun e => h (hz.1 e)
      have h1 : ¬ (encS (decT a)).toList = (encS (decT b)).toList := by
        intro e
        rw [toList_eq, toList_eq] at e
        have e2 : encS (decT a) = encS (decT b) := ByteArray.ext (Array.toList_inj.1 e)
        have e3 := dec_enc_dec a
        rw [e2, dec_enc_dec b] at e3
        exact h e3.symm
      rw [beq_eq_false_iff_ne.2 h0, beq_eq_false_iff_ne.2 h1]
      rfl
  unfold posternlaw02_ScalarCompares.f posternlaw02_awake.f
  simp only [Option.bind_some, if_true]
  rw [hE, REscape_is a ha (K + 1) (by omega)]
  simp only [Option.bind_some, bne_self_eq_false]
  rw [posternlaw02_ScalarCompares.j0, if_neg (by simp), hcm a b ha hb, hcm b c hb hc, hcm a c ha hc, RCompare_is a b ha hb K (by omega), hcm b a hb ha]
  simp only [Option.bind_some, if_true]
  rw [hanti, show wrap64 (-cmpS a b) = -cmpS a b by unfold wrap64; omega, if_pos rfl, hcl a ha, hcl b hb]
  simp only [Option.bind_some]
  rw [hcle, if_neg (by simp)]
  by_cases h : cmpS a b = cmpS b c
  · rw [if_pos h, htr h]
    simp
  · rw [if_neg h]
theorem scalarCompares_any (a b c : ByteArray) (w : World) (ha : a.size ≤ 1048576) (hb : b.size ≤ 1048576) (hc : c.size ≤ 1048576) (T : Tabs w) : Calls Tryd.prog 16 #[.string a, .string b, .string c] w fun e w' => e = .returned (.bool true) ∧ Below w.heap.size w w' :=
  posternlaw02_ScalarCompares.calls 20000000000 a b c true w (compares_f _ (by omega) a b c ha hb hc) T
end Go.Proofs.YtgippjhkimohlaaDoor
