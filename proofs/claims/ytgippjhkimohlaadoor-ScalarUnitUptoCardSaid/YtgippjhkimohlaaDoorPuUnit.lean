/- ScalarUnit: what is left when the program is gone; the walk. -/
import Derived.Test.YtgippjhkimohlaaDoorPuPos
import Derived.Test.YtgippjhkimohlaaDoorQScax28
set_option linter.unusedVariables false
set_option linter.unusedSimpArgs false
namespace Go.Proofs.YtgippjhkimohlaaDoor
open Go.RowKit Go.Proofs.YtgippjhkimohlaaDoorW.PrintWords Go.Proofs.YtgippjhkimohlaaDoorQ.Sca
theorem To.ge {s : ByteArray} {a e : Int} {l : List (Int × Pc)} (h : To s a l e) (h0 : 0 ≤ a) : ∀ q ∈ l, a ≤ q.1 := by
  induction h with
  | nil a => intro q hq; cases hq
  | @cons a e l h r ih =>
    have hst := fst_step s a h0 h
    intro q hq
    rcases List.mem_cons.1 hq with rfl | hq
    · exact Int.le_refl _
    · have := ih (by omega) q hq; omega
theorem To.sorted {s : ByteArray} {a e : Int} {l : List (Int × Pc)} (h : To s a l e) (h0 : 0 ≤ a) : l.Pairwise (fun p q => p.1 < q.1) := by
  induction h with
  | nil a => exact List.Pairwise.nil
  | @cons a e l h r ih =>
    have hst := fst_step s a h0 h
    refine List.Pairwise.cons (fun q hq => ?_) (ih (by omega))
    have := r.ge (by omega) q hq
    show a < q.1
    omega
theorem untF_at (z : Int) (q : Int × Pc) (r : List (Int × Pc)) : ∀ (pre : List (Int × Pc)) (n : Int), untF (n + unS pre) z (pre ++ q :: r) n = (q.1, 0) := by
  intro pre
  induction pre with
  | nil =>
    intro n
    have hun := un_range q.2.rune
    simp only [List.nil_append, untF, unS, List.map_nil, List.sum_nil]
    rw [if_pos (by omega)]
  | cons p pre ih =>
    intro n
    have hun := un_range p.2.rune
    have hr := unS_range pre
    rw [List.cons_append, unS_cons]
    simp only [untF]
    rw [if_neg (by omega), show n + (un p.2.rune + unS pre) = n + un p.2.rune + unS pre by omega]
    exact ih _
theorem foldE_mono {a b : Int} (h : a ≤ b) : ∀ (l : List (Int × Int)) (c c' f f' : Int), c ≤ c' → (foldE a l (c, f)).1 ≤ (foldE b l (c', f')).1 := by
  intro l
  induction l with
  | nil => intro c c' f f' hc; exact hc
  | cons p l ih =>
    intro c c' f f' hc
    rw [foldE_cons, foldE_cons]
    split
    · rw [if_pos (by omega)]; exact ih _ _ _ _ (by simp only; omega)
    · split
      · exact ih _ _ _ _ (by simp only; omega)
      · exact ih _ _ _ _ hc
theorem foldE_all {a : Int} : ∀ (l : List (Int × Int)) (c f : Int), (∀ p ∈ l, p.2 ≤ a) → (foldE a l (c, f)).1 = c + l.length := by
  intro l
  induction l with
  | nil => intro c f h; show c = c + _; simp
  | cons p l ih =>
    intro c f h
    rw [foldE_cons, if_pos (h p (List.mem_cons_self ..)), List.length_cons]
    have := ih (c + 1) p.2 (fun q hq => h q (List.mem_cons_of_mem _ hq))
    simp only at this ⊢
    omega
/-- what is told of the place where a piece begins -/
theorem posA_at (s : ByteArray) (j : Nat) (hj : j < (pcs s 0).length) :
    ∃ c, posA s ((pcs s 0).getD j pc0).1 = ((foldE ((pcs s 0).getD j pc0).1 (eps s) (0, 0)).1, c, (j : Int), unS ((pcs s 0).take j), 0) ∧ c ≤ j ∧ untF (unS ((pcs s 0).take j)) s.size (pcs s 0) 0 = (((pcs s 0).getD j pc0).1, 0) := by
  have hT := To.all s s.size 0 (by omega) (by omega) (by omega)
  have hso := hT.sorted (by omega)
  have hge := hT.ge (by omega)
  have hlt := pos_lt s
  have hsp : (pcs s 0) = (pcs s 0).take j ++ (pcs s 0).drop j := (List.take_append_drop j _).symm
  have hdr := drop_pc (pcs s 0) j hj
  rw [hdr] at hsp
  have hq : (pcs s 0).getD j pc0 ∈ pcs s 0 := by rw [List.getD_eq_getElem?_getD, List.getElem?_eq_getElem hj]; exact List.getElem_mem _
  have hq0 := hge _ hq
  have hq1 := hlt _ hq
  generalize (pcs s 0).getD j pc0 = q at *
  rw [hsp, List.pairwise_append] at hso
  obtain ⟨_, ho2, ho3⟩ := hso
  have hpre : ∀ x ∈ (pcs s 0).take j, x.1 < q.1 := fun x hx => ho3 x hx q (List.mem_cons_self ..)
  have hsuf : ∀ x ∈ q :: (pcs s 0).drop (j + 1), q.1 ≤ x.1 := fun x hx => by
    rcases List.mem_cons.1 hx with rfl | hx
    · exact Int.le_refl _
    · exact Int.le_of_lt ((List.pairwise_cons.1 ho2).1 x hx)
  have hlen : ((pcs s 0).take j).length = j := by rw [List.length_take]; omega
  have hun := untF_at s.size q ((pcs s 0).drop (j + 1)) ((pcs s 0).take j) 0
  rw [← hsp, Int.zero_add] at hun
  unfold posA
  rw [if_neg (by omega)]
  obtain ⟨c', h, h1, h2⟩ := posF_all q.1 (foldE q.1 (eps s) (0, 0)).2 ((pcs s 0).take j) (q :: (pcs s 0).drop (j + 1)) 0 0 0 hpre
  rw [← hsp, posF_end hsuf, hlen, Int.zero_add, Int.zero_add] at h
  rw [h]
  exact ⟨c', rfl, by rw [hlen] at h2; omega, hun⟩
theorem unit_l0 (s : ByteArray) (hs : s.size ≤ 1048576) : ∀ (n k j : Nat) (ln c p u : Int), (pcs s 0).length - j = n → j ≤ (pcs s 0).length → (j < (pcs s 0).length → ln ≤ (foldE ((pcs s 0).getD j pc0).1 (eps s) (0, 0)).1) → p ≤ j → u ≤ unS ((pcs s 0).take j) → 2 * n + 4 * s.size + 20 < k →
    posternlaw02_ScalarUnit.l0 k s ((pcs s 0).map toS32) ((pcs s 0).length : Int) (j : Int) ln c p u = some true := by
  intro n
  have F := fit s (by omega)
  have hFl := F.len
  have hle := epsF_len s s.size 0
  induction n with
  | zero =>
    intro k j ln c p u h1 h2 hln hp hu hk
    obtain ⟨k, rfl⟩ : ∃ m, k = m + 1 := ⟨k - 1, by omega⟩
    obtain ⟨ln', c', he⟩ := posA_end s
    have hln' : ln' = (eps s).length := by
      have h3 := congrArg Prod.fst he
      unfold posA at h3
      rw [if_neg (by omega)] at h3
      have h4 := foldE_all (a := (s.size : Int)) (eps s) 0 0 (fun p hp => by have := epsF_gt s s.size 0 p hp; omega)
      simp only at h3
      omega
    have hlin : (linT s).length = (eps s).length + 1 := by unfold linT; exact cutsF_len s _ _
    have hdl : (decT s).length = (pcs s 0).length := by unfold decT; exact List.length_map ..
    simp only [posternlaw02_ScalarUnit.l0]
    rw [if_neg (by omega), Position_is s _ (by omega) _ (by omega), he, Lines_is s (by omega) _ (by omega)]
    simp only [Option.bind_some, if_true]
    rw [if_pos (by rw [hlin, hln']; unfold wrap64; unfold eps; omega)]
    unfold scalar_Decode.f
    rw [if_pos (by omega)]
    simp only [Option.bind_some, hdl, beq_self_eq_true]
  | succ n ih =>
    intro k j ln c p u h1 h2 hln hp hu hk
    obtain ⟨k, rfl⟩ : ∃ m, k = m + 1 + 1 := ⟨k - 2, by omega⟩
    obtain ⟨c', he, hc', hun⟩ := posA_at s j (by omega)
    have hln := hln (by omega)
    have htk : (pcs s 0).take (j + 1) = (pcs s 0).take j ++ [(pcs s 0).getD j pc0] := by
      rw [List.take_succ_eq_append_getElem (show j < (pcs s 0).length by omega), List.getD_eq_getElem?_getD, List.getElem?_eq_getElem (show j < (pcs s 0).length by omega)]
      rfl
    have hnext : j + 1 < (pcs s 0).length → (foldE ((pcs s 0).getD j pc0).1 (eps s) (0, 0)).1 ≤ (foldE ((pcs s 0).getD (j + 1) pc0).1 (eps s) (0, 0)).1 := fun hj => by
      refine foldE_mono ?_ _ _ _ _ _ (Int.le_refl _)
      have hso := (To.all s s.size 0 (by omega) (by omega) (by omega)).sorted (by omega)
      have := List.pairwise_iff_getElem.1 hso j (j + 1) (by omega) hj (by omega)
      simp only [List.getD_eq_getElem?_getD, List.getElem?_eq_getElem hj, List.getElem?_eq_getElem (show j < (pcs s 0).length by omega), Option.getD_some]
      omega
    simp only [posternlaw02_ScalarUnit.l0, rdS_map (pcs s 0) j (by omega), toS32]
    rw [if_pos (by omega), if_pos (by omega), if_pos (by rw [List.length_map]; omega), Position_is s _ (by omega) _ (by omega), he]
    simp only [Option.bind_some, if_true]
    rw [if_neg (by omega), if_neg (by omega), if_neg (by omega), decide_eq_false (by omega)]
    simp only [posternlaw02_ScalarUnit.j1, Bool.false_eq_true, if_false]
    rw [Unit_is s _ (by omega) _ (by omega), hun]
    simp only [Option.bind_some, if_true]
    rw [show wrap64 ((j : Int) + 1) = ((j + 1 : Nat) : Int) by unfold wrap64; omega]
    refine ih k (j + 1) _ _ _ _ (by omega) (by omega) hnext (by omega) ?_ (by omega)
    rw [htk, unS_app]
    have := unS_range [(pcs s 0).getD j pc0]
    omega
theorem scalarUnit_any (s : ByteArray) (w : World) (hs : s.size ≤ 1048576) (T : Tabs w) : Calls Tryd.prog 14 #[.string s] w fun e w' => e = .returned (.bool true) ∧ Below w.heap.size w w' := by
  have F := fit s (by omega)
  have hFl := F.len
  obtain ⟨K, hK⟩ : ∃ K : Nat, K = 19999999 := ⟨_, rfl⟩
  refine posternlaw02_ScalarUnit.calls K s true w ?_ T
  unfold posternlaw02_ScalarUnit.f posternlaw02_awake.f scalar_Pieces.f
  simp only [Option.bind_some, if_true]
  rw [if_pos (by omega)]
  simp only [Option.bind_some, List.length_map]
  exact unit_l0 s hs (pcs s 0).length K 0 0 0 0 0 (by omega) (by omega) (fun _ => (foldE_range _ (((F.at_ 0 (by omega))).1) _ _ _).1) (by omega) (by simp [unS]) (by omega)
end Go.Proofs.YtgippjhkimohlaaDoor
