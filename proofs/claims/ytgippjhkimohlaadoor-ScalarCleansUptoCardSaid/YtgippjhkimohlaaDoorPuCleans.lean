/- ScalarCleans: what is left when the program is gone; the walk. -/
import Derived.Test.YtgippjhkimohlaaDoorPuB
import Derived.Test.YtgippjhkimohlaaDoorQScax4
import Derived.Test.YtgippjhkimohlaaDoorQScax3
import Derived.Test.YtgippjhkimohlaaDoorQScax2
set_option linter.unusedVariables false
set_option linter.unusedSimpArgs false
namespace Go.Proofs.YtgippjhkimohlaaDoor
open Go.RowKit Go.Proofs.YtgippjhkimohlaaDoorW.PrintWords Go.Proofs.YtgippjhkimohlaaDoorQ.Sca
/-- a text's pieces ahead of a place where one begins, and from there on -/
theorem To.split {s : ByteArray} {e : Int} {l : List (Int × Pc)} (h : To s 0 l e) : decT (s.extract 0 e.toNat) = l.map (·.2.rune) ∧ decT (tail s e) = (pcs s e).map (·.2.rune) ∧ decT s = l.map (·.2.rune) ++ (pcs s e).map (·.2.rune) := by
  have hle := h.le (by omega)
  have he := hle.1
  have hs := hle.2 (by omega)
  have hz : ((s.extract 0 e.toNat).size : Int) = e := by have := size_ext s 0 e.toNat (by omega); omega
  have zt := tail_size s e he hs
  refine ⟨?_, ?_, ?_⟩
  · have hp := h.pre (by omega) (Int.le_refl e) hs
    have hp2 : To (s.extract 0 e.toNat) 0 l (s.extract 0 e.toNat).size := by rw [hz]; exact hp
    unfold decT
    rw [To.whole hp2]
  · have ha := To.all s ((s.size : Int) - e).toNat e he hs (by omega)
    have hr := ha.rest (E := e) he (Int.le_refl e) hs
    have hr2 : To (tail s e) 0 ((pcs s e).map fun p => (p.1 - e, p.2)) (tail s e).size := by
      rw [zt, show (0 : Int) = e - e by omega]
      exact hr
    unfold decT
    rw [To.whole hr2, List.map_map]
    rfl
  · unfold decT
    rw [h.pcs_eq (by omega), List.map_append]
/-- how far whole pieces go that end at m or before -/
def cutL (m : Int) : List (Int × Pc) → Int → Int
  | [], a => a
  | p :: l, a => if p.1 + p.2.size ≤ m then cutL m l (p.1 + p.2.size) else a
theorem cut_to (s : ByteArray) (m : Int) (n : Nat) : ∀ (a : Int) (l : List (Int × Pc)), To s 0 l a → 0 ≤ a → a ≤ s.size → (s.size : Int) - a = n → ∃ l', To s 0 l' (cutL m (pcs s a) a) := by
  induction n using Nat.strongRecOn with
  | ind n ih =>
    intro a l hl h0 hle hn
    by_cases h : a < s.size
    · have hs := fst_step s a h0 h
      rw [pcs_go s a h0 h]
      simp only [cutL]
      split
      · exact ih ((s.size : Int) - (a + (fstT (tail s a)).size)).toNat (by omega) _ _ (hl.snoc h) (by omega) (by omega) (by omega)
      · exact ⟨l, hl⟩
    · rw [pcs_end s a (by omega)]
      exact ⟨l, hl⟩
/-- what the statement's own loop does: each piece in turn -/
def endV (m : Int) (l : List (Int × Pc)) (v : Int) : Int := l.foldl (fun v p => if p.1 + p.2.size ≤ m then p.1 + p.2.size else v) v
theorem endV_stop {s : ByteArray} {m : Int} {a e : Int} {l : List (Int × Pc)} (h : To s a l e) (h0 : 0 ≤ a) (hm : m < a) (v : Int) : endV m l v = v := by
  induction h with
  | nil a => rfl
  | @cons a e l h r ih =>
    have hst := fst_step s a h0 h
    unfold endV
    rw [List.foldl_cons, if_neg (show ¬ (a + (fstT (tail s a)).size ≤ m) by omega)]
    exact ih (by omega) (by omega)
theorem endV_cut {s : ByteArray} {m : Int} {a e : Int} {l : List (Int × Pc)} (h : To s a l e) (h0 : 0 ≤ a) : endV m l a = cutL m l a := by
  induction h with
  | nil a => rfl
  | @cons a e l h r ih =>
    have hst := fst_step s a h0 h
    unfold endV
    rw [List.foldl_cons]
    simp only [cutL]
    split
    · exact ih (by omega)
    · exact endV_stop r (by omega) (by omega) a
theorem drop_pc (l : List (Int × Pc)) (i : Nat) (h : i < l.length) : l.drop i = l.getD i pc0 :: l.drop (i + 1) := by
  rw [List.drop_eq_getElem_cons h, List.getD_eq_getElem?_getD, List.getElem?_eq_getElem h]
  rfl
theorem rdS_map (l : List (Int × Pc)) (i : Nat) (h : i < l.length) : rd_T32 (l.map toS32) (i : Int) = toS32 (l.getD i pc0) := by
  unfold rd_T32
  simp only [Int.toNat_natCast, List.getD_eq_getElem?_getD, List.getElem?_map, List.getElem?_eq_getElem h]
  rfl
theorem rdR_map (l : List (Int × Pc)) (i : Nat) (h : i < l.length) : rd_T33 (l.map toS33) (i : Int) = toS33 (l.getD i pc0) := by
  unfold rd_T33
  simp only [Int.toNat_natCast, List.getD_eq_getElem?_getD, List.getElem?_map, List.getElem?_eq_getElem h]
  rfl
/-- pieces of a text that is not too great -/
structure Fit (s : ByteArray) (l : List (Int × Pc)) : Prop where
  size : s.size ≤ 9000000000
  at_ : ∀ i, i < l.length → 0 ≤ (l.getD i pc0).1 ∧ (l.getD i pc0).1 < s.size ∧ 1 ≤ (l.getD i pc0).2.size ∧ (l.getD i pc0).1 + (l.getD i pc0).2.size ≤ s.size
  len : l.length ≤ s.size
theorem fit (s : ByteArray) (hs : s.size ≤ 9000000000) : Fit s (pcs s 0) := by
  refine ⟨hs, fun i hi => ?_, pcs_len s s.size 0 (by omega) (by omega)⟩
  have ha := To.all s s.size 0 (by omega) (by omega) (by omega)
  have hm := ha.mem (by omega) ((pcs s 0).getD i pc0) (by rw [List.getD_eq_getElem?_getD, List.getElem?_eq_getElem hi]; exact List.getElem_mem _)
  obtain ⟨h1, h2, h3, h4⟩ := hm
  have hst := fst_step s _ h1 h2
  rw [← h3] at hst
  exact ⟨h1, h2, hst.1, h4⟩
theorem Cut_l0 (s : ByteArray) (m : Int) (l : List (Int × Pc)) (F : Fit s l) : ∀ (n k i : Nat) (a : Int), l.length - i = n → i ≤ l.length → n < k → 0 ≤ a → a ≤ s.size → (∀ e, To s a (l.drop i) e → True) → To s a (l.drop i) s.size → scalar_Cut.l0 k s m a (l.map toS32) (l.length : Int) (i : Int) = some (s.extract 0 (cutL m (l.drop i) a).toNat) := by
  intro n
  have hF := F.size
  induction n with
  | zero =>
    intro k i a h1 h2 hk h0 hle _ hT
    obtain ⟨k, rfl⟩ : ∃ m, k = m + 1 := ⟨k - 1, by omega⟩
    simp only [scalar_Cut.l0]
    rw [if_neg (by omega), if_pos h0, if_pos hle, List.drop_of_length_le (by omega)]
    rfl
  | succ n ih =>
    intro k i a h1 h2 hk h0 hle _ hT
    obtain ⟨k, rfl⟩ : ∃ m, k = m + 1 := ⟨k - 1, by omega⟩
    have hf := F.at_ i (by omega)
    have hl := F.len
    rw [drop_pc l i (by omega)] at hT ⊢
    generalize hg : l.getD i pc0 = p at *
    cases hT with
    | cons h r =>
      simp only at hf
      have hst := fst_step s a h0 h
      simp only [scalar_Cut.l0, rdS_map l i (by omega), hg, toS32]
      rw [if_pos (by omega), if_pos (by omega), if_pos (by rw [List.length_map]; omega), show wrap64 (a + (fstT (tail s a)).size) = a + (fstT (tail s a)).size by unfold wrap64; omega, show wrap64 ((i : Int) + 1) = ((i + 1 : Nat) : Int) by unfold wrap64; omega]
      simp only [cutL]
      by_cases hc : a + (fstT (tail s a)).size ≤ m
      · rw [if_neg (by omega), if_pos hc]
        exact ih k (i + 1) _ (by omega) (by omega) (by omega) (by omega) (by omega) (fun _ _ => trivial) r
      · rw [if_pos (by omega), if_neg hc, if_pos h0, if_pos hle]
theorem Cut_is (s : ByteArray) (m : Int) (hs : s.size ≤ 1000000000) (k : Nat) (hk : s.size < k) : scalar_Cut.f k s m = some (s.extract 0 (cutL m (pcs s 0) 0).toNat) := by
  have F := fit s (by omega)
  unfold scalar_Cut.f scalar_Pieces.f
  rw [if_pos (by omega)]
  simp only [Option.bind_some, List.length_map]
  have := Cut_l0 s m (pcs s 0) F (pcs s 0).length k 0 0 (by omega) (by omega) (by have := F.len; omega) (by omega) (by omega) (fun _ _ => trivial) (by rw [List.drop_zero]; exact To.all s s.size 0 (by omega) (by omega) (by omega))
  rw [List.drop_zero] at this
  exact this
theorem Cleans_l0 (s : ByteArray) (m : Int) (l : List (Int × Pc)) (F : Fit s l) : ∀ (n k i : Nat) (v : Int), l.length - i = n → i ≤ l.length → posternlaw02_ScalarCleans.l0 (k + n) s m v (l.map toS33) (l.length : Int) (i : Int) = posternlaw02_ScalarCleans.l0 k s m (endV m (l.drop i) v) (l.map toS33) (l.length : Int) (l.length : Int) := by
  intro n
  have hF := F.size
  induction n with
  | zero =>
    intro k i v h1 h2
    obtain rfl : i = l.length := by omega
    rw [List.drop_length]
    rfl
  | succ n ih =>
    intro k i v h1 h2
    have hf := F.at_ i (by omega)
    have hl := F.len
    rw [drop_pc l i (by omega), show k + (n + 1) = k + n + 1 by omega]
    generalize hg : l.getD i pc0 = p at *
    conv => lhs; rw [posternlaw02_ScalarCleans.l0]
    simp only [rdR_map l i (by omega), hg, toS33]
    rw [if_pos (by omega), if_pos (by omega), if_pos (by rw [List.length_map]; omega), show wrap64 (p.1 + p.2.size) = p.1 + p.2.size by unfold wrap64; omega, show wrap64 ((i : Int) + 1) = ((i + 1 : Nat) : Int) by unfold wrap64; omega]
    unfold endV
    rw [List.foldl_cons]
    split
    · exact ih k (i + 1) _ (by omega) (by omega)
    · exact ih k (i + 1) _ (by omega) (by omega)
theorem wrgT_none {l : List (Int × Pc)} (h : ∀ p ∈ l, p.2.bad = false) : wrgT l = -1 := by
  induction l with
  | nil => rfl
  | cons p l ih =>
    unfold wrgT
    rw [if_neg (by rw [h p (List.mem_cons_self ..)]; decide)]
    exact ih (fun q hq => h q (List.mem_cons_of_mem _ hq))
theorem wrgT_some {l : List (Int × Pc)} (h0 : ∀ p ∈ l, 0 ≤ p.1) (h : wrgT l = -1) : ∀ p ∈ l, p.2.bad = false := by
  induction l with
  | nil => intro p hp; cases hp
  | cons p l ih =>
    unfold wrgT at h
    cases hb : p.2.bad with
    | true => rw [if_pos hb] at h; have := h0 p (List.mem_cons_self ..); omega
    | false =>
      rw [if_neg (by rw [hb]; decide)] at h
      intro q hq
      rcases List.mem_cons.1 hq with rfl | hq
      · exact hb
      · exact ih (fun q hq => h0 q (List.mem_cons_of_mem _ hq)) h q hq
theorem decT_len (s : ByteArray) : (decT s).length ≤ s.size := by
  unfold decT
  rw [List.length_map]
  exact pcs_len s s.size 0 (by omega) (by omega)
theorem encS_len (l : List Int) : (encS l).size ≤ 4 * l.length := by rw [encS_size]; exact encL_len l
theorem scalarCleans_pure (s : ByteArray) (m : Int) (hs : s.size ≤ 1048576) : ∃ k, posternlaw02_ScalarCleans.f k s m = some true := by
  have F := fit s (by omega)
  have hlen := F.len
  have hdl := decT_len s
  have hel := encS_len (decT s)
  have hsc := decT_scal s
  have hde := dec_enc (decT s) hsc
  have hpos : ∀ p ∈ pcs s 0, 0 ≤ p.1 := fun p hp => ((To.all s s.size 0 (by omega) (by omega) (by omega)).mem (by omega) p hp).1
  obtain ⟨K, hK⟩ : ∃ K : Nat, K = 19999999 := ⟨_, rfl⟩
  refine ⟨K + 1 + (pcs s 0).length + 1, ?_⟩
  have hRE := REncode_is (decT s) _ (StopAt.full hsc) (by omega) (K + 1 + (pcs s 0).length + 1) (by omega)
  unfold encA at hRE
  rw [if_pos rfl] at hRE
  -- the last part, by the law's loop
  have hT := To.all s s.size 0 (by omega) (by omega) (by omega)
  obtain ⟨L, hL⟩ := cut_to s m s.size 0 [] (.nil 0) (by omega) (by omega) (by omega)
  have hcut := Cut_is s m (by omega) K (by omega)
  have hev : endV m (pcs s 0) 0 = cutL m (pcs s 0) 0 := endV_cut hT (by omega)
  generalize cutL m (pcs s 0) 0 = e at *
  obtain ⟨hd1, hd2, hd3⟩ := hL.split
  have hle := hL.le (by omega)
  have hle2 := hle.2 (by omega)
  have hj : posternlaw02_ScalarCleans.j0 (K + 1 + (pcs s 0).length + 1) s m false = some true := by
    simp only [posternlaw02_ScalarCleans.j0, Bool.false_eq_true, if_false]
    unfold posternref02_Pieces.f
    rw [if_pos (by omega)]
    simp only [Option.bind_some, List.length_map]
    have := Cleans_l0 s m (pcs s 0) F (pcs s 0).length (K + 1) 0 0 (by omega) (by omega)
    rw [List.drop_zero, hev] at this
    refine Eq.trans this ?_
    simp only [posternlaw02_ScalarCleans.l0]
    rw [if_neg (by omega), hcut]
    simp only [Option.bind_some]
    rw [if_pos hle.1, if_pos hle2]
    unfold scalar_Decode.f
    have hz1 : (s.extract 0 e.toNat).size ≤ 1048576 := by have := size_ext s 0 e.toNat (by omega); omega
    have hz2 : (s.extract e.toNat s.size).size ≤ 1048576 := by have := size_ext s e.toNat s.size (by omega); omega
    have hn1 : (L.map (·.2.rune)).length ≤ 1048576 := by rw [← hd1]; have := decT_len (s.extract 0 e.toNat); omega
    have hd2' : decT (s.extract e.toNat s.size) = (pcs s e).map (·.2.rune) := hd2
    have hn2 : ((pcs s e).map (·.2.rune)).length ≤ 1048576 := by rw [← hd2']; have := decT_len (s.extract e.toNat s.size); omega
    simp only [if_true]
    rw [if_pos (show s.size * 24 + 24 ≤ 140737488351232 by omega), if_pos (show (s.extract 0 e.toNat).size * 24 + 24 ≤ 140737488351232 by omega), if_pos (show (s.extract e.toNat s.size).size * 24 + 24 ≤ 140737488351232 by omega), hd1, hd3, hd2']
    generalize hA : L.map (·.2.rune) = A at *
    generalize hB : (pcs s e).map (·.2.rune) = B at *
    simp only [Option.bind_some, List.nil_append, List.length_nil]
    rw [if_pos (by omega), if_pos (by omega), same_is _ (by rw [List.length_append]; omega) _ (by rw [List.length_append]; omega)]
    rfl
  unfold posternlaw02_ScalarCleans.f posternlaw02_awake.f posternref02_Decode.f scalar_Clean.f scalar_Wrong.f
  simp only [Option.bind_some, if_true]
  rw [if_pos (by omega)]
  simp only [Option.bind_some]
  rw [hRE]
  simp only [Option.bind_some]
  rw [if_pos (by omega)]
  simp only [Option.bind_some, if_true]
  rw [if_pos (by omega)]
  simp only [Option.bind_some]
  rw [wrgT_none hde.2]
  simp only [if_true]
  rw [if_pos (by omega), hde.1]
  simp only [Option.bind_some, if_true]
  rw [if_pos (by omega)]
  simp only [Option.bind_some]
  by_cases hw : wrgT (pcs s 0) = -1
  · rw [if_pos hw, clean_same s (wrgT_some hpos hw)]
    simp only [bne_self_eq_false]
    exact hj
  · rw [if_neg hw]
    exact hj
theorem scalarCleans_any (s : ByteArray) (m : Int) (w : World) (hs : s.size ≤ 1048576) (T : Tabs w) : Calls Tryd.prog 8 #[.string s, .int .i64 m] w fun e w' => e = .returned (.bool true) ∧ Below w.heap.size w w' := by
  obtain ⟨k, hk⟩ := scalarCleans_pure s m hs
  exact posternlaw02_ScalarCleans.calls k s m true w hk T
end Go.Proofs.YtgippjhkimohlaaDoor
