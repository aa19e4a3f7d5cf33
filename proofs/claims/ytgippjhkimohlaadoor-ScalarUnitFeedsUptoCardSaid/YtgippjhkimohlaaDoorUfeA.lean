/- A decoder of units: what it tells in pieces is what is told of all. Plain. -/
import Derived.Test.YtgippjhkimohlaaDoorScP
set_option linter.unusedVariables false
set_option linter.unusedSimpArgs false
namespace Go.Proofs.YtgippjhkimohlaaDoor
open Go.RowKit Go.Proofs.YtgippjhkimohlaaDoorW.PrintWords Go.Proofs.YtgippjhkimohlaaDoorW.PrintLast
/-- does a list of units end in a first half? -/
def endsHi (a : List Int) : Bool := match a.getLast? with | none => false | some u => decide (55296 ≤ u ∧ u ≤ 56319)
def heldU (a : List Int) : Int := if endsHi a then a.getLastD 0 else 0
def sureU (a : List Int) : List Int := if endsHi a then a.dropLast else a
def preU (h : Int) : List Int := if h ≠ 0 then [h] else []
theorem endsHi_app (x y : List Int) (hy : y ≠ []) : endsHi (x ++ y) = endsHi y := by
  unfold endsHi
  rw [List.getLast?_append]
  cases h : y.getLast? with
  | none => exact absurd (List.getLast?_eq_none_iff.1 h) hy
  | some u => rfl
theorem heldU_app (x y : List Int) (hy : y ≠ []) : heldU (x ++ y) = heldU y := by
  unfold heldU
  rw [endsHi_app x y hy]
  cases h : y.getLast? with
  | none => exact absurd (List.getLast?_eq_none_iff.1 h) hy
  | some u => rw [List.getLastD_eq_getLast?, List.getLastD_eq_getLast?, List.getLast?_append, h]; rfl
theorem sureU_app (x y : List Int) (hy : y ≠ []) : sureU (x ++ y) = x ++ sureU y := by
  unfold sureU
  rw [endsHi_app x y hy]
  by_cases e : endsHi y = true
  · rw [if_pos e, if_pos e, List.dropLast_append_of_ne_nil hy]
  · rw [if_neg e, if_neg e]
theorem endsHi_some {a : List Int} (h : endsHi a = true) : ∃ u, a.getLast? = some u ∧ 55296 ≤ u ∧ u ≤ 56319 := by
  unfold endsHi at h
  cases e : a.getLast? with
  | none => rw [e] at h; cases h
  | some u => rw [e] at h; exact ⟨u, rfl, of_decide_eq_true h⟩
theorem heldU_some {a : List Int} (h : endsHi a = true) : a.getLast? = some (heldU a) ∧ 55296 ≤ heldU a ∧ heldU a ≤ 56319 := by
  obtain ⟨u, e, h1, h2⟩ := endsHi_some h
  have : heldU a = u := by unfold heldU; rw [if_pos h, List.getLastD_eq_getLast?, e]; rfl
  rw [this]
  exact ⟨e, h1, h2⟩
theorem sure_pre (a : List Int) : sureU a ++ preU (heldU a) = a := by
  by_cases h : endsHi a = true
  · obtain ⟨e, h1, h2⟩ := heldU_some h
    unfold sureU preU
    rw [if_pos h, if_pos (by omega)]
    rw [List.getLast?_eq_getElem?] at e
    have hz : a.length - 1 < a.length := (List.getElem?_eq_some_iff.1 e).1
    rw [List.dropLast_eq_take]
    have e2 : [heldU a] = a.drop (a.length - 1) := by
      rw [List.drop_eq_getElem_cons hz, List.drop_eq_nil_of_le (by omega)]
      rw [List.getElem?_eq_getElem hz] at e
      rw [Option.some.inj e]
    rw [e2, List.take_append_drop]
  · unfold sureU preU heldU
    rw [if_neg h, if_neg h]
    simp
theorem frmU_app (n : Nat) : ∀ (x z : List Int), x.length ≤ n → (∀ u v, x.getLast? = some u → z.head? = some v → ¬ ((55296 ≤ u ∧ u ≤ 56319) ∧ (56320 ≤ v ∧ v ≤ 57343))) → frmU (x ++ z) = frmU x ++ frmU z := by
  induction n with
  | zero => intro x z h _; obtain rfl := List.length_eq_zero_iff.1 (Nat.le_zero.1 h); simp [frmU]
  | succ n ih =>
    intro x z h hc
    match x, h, hc with
    | [], _, _ => simp [frmU]
    | u :: x', h, hc =>
      have hx : x' ≠ [] → ∀ u v, x'.getLast? = some u → z.head? = some v → ¬ ((55296 ≤ u ∧ u ≤ 56319) ∧ (56320 ≤ v ∧ v ≤ 57343)) := fun hne u' v h1 h2 => hc u' v (by rw [List.getLast?_cons, h1]; rfl) h2
      have hih : frmU (x' ++ z) = frmU x' ++ frmU z := by
        by_cases hne : x' = []
        · subst hne; simp [frmU]
        · exact ih x' z (by simpa using h) (hx hne)
      by_cases hp : u < 55296 ∨ 57343 < u
      · rw [List.cons_append, frmU_plain u _ hp, frmU_plain u _ hp, hih]; rfl
      · by_cases hl : 56320 ≤ u
        · rw [List.cons_append, frmU_lone u _ (by omega) (Or.inl hl), frmU_lone u _ (by omega) (Or.inl hl), hih]; rfl
        · match x', h, hc, hx, hih with
          | [], h, hc, hx, hih =>
            have e1 : frmU (u :: z) = 65533 :: frmU z := by
              refine frmU_lone u z (by omega) ?_
              cases z with
              | nil => exact Or.inr (Or.inl rfl)
              | cons v r =>
                refine Or.inr (Or.inr ⟨v, r, rfl, fun hv => ?_⟩)
                exact hc u v (by simp) (by simp) ⟨by omega, hv⟩
            have e2 : frmU [u] = 65533 :: frmU [] := frmU_lone u [] (by omega) (Or.inr (Or.inl rfl))
            rw [show [u] ++ z = u :: z from rfl, e1, e2]
            simp [frmU]
          | v :: x'', h, hc, hx, hih =>
            by_cases hv : 56320 ≤ v ∧ v ≤ 57343
            · rw [show u :: v :: x'' ++ z = u :: v :: (x'' ++ z) from rfl, frmU_pair u v _ (by omega) hv, frmU_pair u v _ (by omega) hv]
              have : frmU (x'' ++ z) = frmU x'' ++ frmU z := by
                by_cases hne : x'' = []
                · subst hne; simp [frmU]
                · exact ih x'' z (by simp at h; omega) (fun u' v' h1 h2 => hc u' v' (by rw [List.getLast?_cons, List.getLast?_cons, h1]; rfl) h2)
              rw [this]; rfl
            · rw [show u :: v :: x'' ++ z = u :: (v :: x'' ++ z) from rfl, frmU_lone u (v :: x'' ++ z) (by omega) (Or.inr (Or.inr ⟨v, x'' ++ z, rfl, hv⟩)), frmU_lone u (v :: x'') (by omega) (Or.inr (Or.inr ⟨v, x'', rfl, hv⟩)), hih]; rfl
/-- one piece more: what it tells -/
theorem fedU_step (a l : List Int) (hl : l ≠ []) : heldU (preU (heldU a) ++ l) = heldU (a ++ l) ∧ frmU (sureU (a ++ l)) = frmU (sureU a) ++ frmU (sureU (preU (heldU a) ++ l)) := by
  refine ⟨by rw [heldU_app _ _ hl, heldU_app _ _ hl], ?_⟩
  have hne : preU (heldU a) ++ l ≠ [] := by simp [hl]
  have e : a ++ l = sureU a ++ (preU (heldU a) ++ l) := by rw [← List.append_assoc, sure_pre]
  rw [e, sureU_app _ _ hne]
  refine frmU_app _ _ _ (Nat.le_refl _) fun u v h1 h2 => ?_
  by_cases h : endsHi a = true
  · obtain ⟨_, h3, h4⟩ := heldU_some h
    have hp : preU (heldU a) = [heldU a] := by unfold preU; rw [if_pos (by omega)]
    rw [hp, sureU_app _ _ hl] at h2
    simp at h2
    omega
  · have hs : sureU a = a := by unfold sureU; rw [if_neg h]
    rw [hs] at h1
    intro hc
    refine h ?_
    unfold endsHi
    rw [h1]
    exact decide_eq_true hc.1
/-- the end -/
theorem fedU_end (a : List Int) : frmU a = frmU (sureU a) ++ (if heldU a = 0 then [] else [65533]) := by
  by_cases h : endsHi a = true
  · obtain ⟨_, h3, h4⟩ := heldU_some h
    have hp : preU (heldU a) = [heldU a] := by unfold preU; rw [if_pos (by omega)]
    have e := sure_pre a
    rw [hp] at e
    rw [if_neg (by omega)]
    have e1 : frmU (sureU a ++ [heldU a]) = frmU (sureU a) ++ frmU [heldU a] := frmU_app _ _ _ (Nat.le_refl _) fun u v h1 h2 => by simp at h2; omega
    have e2 : frmU [heldU a] = [65533] := by rw [frmU_lone _ [] (by omega) (Or.inr (Or.inl rfl))]; simp [frmU]
    rw [← e2, ← e1, e]
  · have hs : sureU a = a := by unfold sureU; rw [if_neg h]
    have hh : heldU a = 0 := by unfold heldU; rw [if_neg h]
    rw [hs, hh, if_pos rfl, List.append_nil]
theorem endsHi_rd (a : List Int) (h : 0 < a.length) : endsHi a = decide (55296 ≤ rd a ((a.length : Int) - 1) ∧ rd a ((a.length : Int) - 1) ≤ 56319) := by
  unfold endsHi
  have : a.getLast? = some (rd a ((a.length : Int) - 1)) := by
    rw [List.getLast?_eq_getElem?]
    unfold rd
    rw [show ((a.length : Int) - 1).toNat = a.length - 1 by omega, List.getD_eq_getElem?_getD, List.getElem?_eq_getElem (by omega)]
    rfl
  rw [this]
theorem heldU_rd (a : List Int) (h : 0 < a.length) : heldU a = if 55296 ≤ rd a ((a.length : Int) - 1) ∧ rd a ((a.length : Int) - 1) ≤ 56319 then rd a ((a.length : Int) - 1) else 0 := by
  have : a.getLastD 0 = rd a ((a.length : Int) - 1) := by
    rw [List.getLastD_eq_getLast?, List.getLast?_eq_getElem?]
    unfold rd
    rw [show ((a.length : Int) - 1).toNat = a.length - 1 by omega, List.getD_eq_getElem?_getD]
  unfold heldU
  rw [endsHi_rd a h, this]
  by_cases c : 55296 ≤ rd a ((a.length : Int) - 1) ∧ rd a ((a.length : Int) - 1) ≤ 56319
  · rw [if_pos c, if_pos (decide_eq_true c)]
  · rw [if_neg c, if_neg (by rw [decide_eq_false c]; simp)]
theorem heldU_nil : heldU [] = 0 := rfl
theorem sureU_rd (a : List Int) (h : 0 < a.length) : sureU a = if 55296 ≤ rd a ((a.length : Int) - 1) ∧ rd a ((a.length : Int) - 1) ≤ 56319 then a.take (a.length - 1) else a := by
  unfold sureU
  rw [endsHi_rd a h, List.dropLast_eq_take]
  by_cases c : 55296 ≤ rd a ((a.length : Int) - 1) ∧ rd a ((a.length : Int) - 1) ≤ 56319
  · rw [if_pos c, if_pos (decide_eq_true c)]
  · rw [if_neg c, if_neg (by rw [decide_eq_false c]; simp)]
end Go.Proofs.YtgippjhkimohlaaDoor
