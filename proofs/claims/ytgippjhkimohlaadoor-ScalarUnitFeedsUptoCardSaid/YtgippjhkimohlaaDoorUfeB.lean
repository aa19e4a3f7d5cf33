/- UnitDecoder.Feed, walked. -/
import Derived.Test.YtgippjhkimohlaaDoorUfeA
import Derived.Test.YtgippjhkimohlaaDoorScX
import Derived.Test.YtgippjhkimohlaaDoorQUfex2
import Derived.Test.YtgippjhkimohlaaDoorQUfex1
import Derived.Test.YtgippjhkimohlaaDoorQUfex0
set_option linter.unusedVariables false
set_option linter.unusedSimpArgs false
namespace Go.Proofs.YtgippjhkimohlaaDoor
open Go.RowKit Go.Proofs.YtgippjhkimohlaaDoorW.PrintWords Go.Proofs.YtgippjhkimohlaaDoorW.PrintLast Go.Proofs.YtgippjhkimohlaaDoorQ.Ufe
namespace UF
theorem same_l0 (l : List Int) (hl : l.length ≤ 9000000000000) : ∀ (n k i : Nat), l.length - i = n → i ≤ l.length → n < k → posternlaw02_same.l0 k l l (l.length : Int) (i : Int) = some true := by
  intro n
  induction n with
  | zero =>
    intro k i h1 h2 hk
    obtain ⟨k, rfl⟩ : ∃ m, k = m + 1 := ⟨k - 1, by omega⟩
    simp only [posternlaw02_same.l0]
    rw [if_neg (by omega)]
  | succ n ih =>
    intro k i h1 h2 hk
    obtain ⟨k, rfl⟩ : ∃ m, k = m + 1 := ⟨k - 1, by omega⟩
    simp only [posternlaw02_same.l0]
    rw [if_pos (by omega), if_pos (by omega), if_pos (by omega), if_pos (by omega), if_pos trivial, show wrap64 ((i : Int) + 1) = ((i + 1 : Nat) : Int) by unfold wrap64; omega]
    exact ih k (i + 1) (by omega) (by omega) (by omega)
theorem same_is (l : List Int) (hl : l.length ≤ 9000000000000) (k : Nat) (hk : l.length < k) : posternlaw02_same.f k l l = some true := by
  unfold posternlaw02_same.f
  rw [if_pos rfl]
  exact same_l0 l hl l.length k 0 (by omega) (by omega) hk
theorem rd_range {l : List Int} {b : Int} (h : ∀ x ∈ l, 0 ≤ x ∧ x ≤ b) (hb : 0 ≤ b) (i : Int) : 0 ≤ rd l i ∧ rd l i ≤ b := by
  unfold rd
  rw [List.getD_eq_getElem?_getD]
  cases e : l[i.toNat]? with
  | none => exact ⟨Int.le_refl 0, hb⟩
  | some x => exact h x (List.mem_of_getElem? e)
theorem frm_drop_len (l : List Int) (i : Nat) : (frmU (l.drop i)).length ≤ l.length - i := by
  have := frmU_len (l.drop i).length (l.drop i) (Nat.le_refl _)
  rw [List.length_drop] at this
  exact this
theorem FromUnits_l0 (l : List Int) (hr : ∀ x ∈ l, 0 ≤ x ∧ x ≤ 65535) (hl : l.length ≤ 9000000000000) : ∀ (n k i : Nat) (acc : List Int), l.length - i = n → i ≤ l.length → acc.length ≤ i → 2 * n < k → scalar_FromUnits.l0 k l acc (i : Int) = some (acc ++ frmU (l.drop i)) := by
  intro n
  induction n using Nat.strongRecOn with
  | ind n ih =>
    intro k i acc h1 h2 h3 hk
    obtain ⟨k, rfl⟩ : ∃ m, k = m + 1 := ⟨k - 1, by omega⟩
    simp only [scalar_FromUnits.l0]
    by_cases hlt : i < l.length
    · obtain ⟨k, rfl⟩ : ∃ m, k = m + 1 := ⟨k - 1, by omega⟩
      have hx := rd_range hr (by decide) (i : Int)
      have hy := rd_range hr (by decide) ((i : Int) + 1)
      have e1 : wrap32 (rd l i) = rd l i := by unfold wrap32; omega
      have e2 : wrap64 ((i : Int) + 1) = (i : Int) + 1 := by unfold wrap64; omega
      have e2' : ((i : Int) + 1) = ((i + 1 : Nat) : Int) := by omega
      have e3 : wrap32 (rd l ((i : Int) + 1)) = rd l ((i : Int) + 1) := by unfold wrap32; omega
      have step : ∀ x, scalar_FromUnits.l0 k l (acc ++ [x]) ((i : Int) + 1) = some (acc ++ (x :: frmU (l.drop (i + 1)))) := fun x => by
        rw [e2', ih (n - 1) (by omega) k (i + 1) (acc ++ [x]) (by omega) (by omega) (by rw [List.length_append, List.length_singleton]; omega) (by omega)]
        simp
      rw [if_pos (by omega), if_pos (by omega), e1]
      by_cases hp : rd l i < 55296 ∨ 57343 < rd l i
      · have hb : (if rd l i < 55296 then scalar_FromUnits.j1 (k + 1) l acc (i : Int) (rd l i) true else scalar_FromUnits.j1 (k + 1) l acc (i : Int) (rd l i) (decide (rd l i > 57343))) = scalar_FromUnits.j1 (k + 1) l acc (i : Int) (rd l i) true := by
          split
          · rfl
          · rw [decide_eq_true (by omega)]
        rw [hb]
        simp only [scalar_FromUnits.j1, if_true]
        rw [if_pos (by omega), e2, step, frm_plain l i hlt hp]
      · have hb : (if rd l i < 55296 then scalar_FromUnits.j1 (k + 1) l acc (i : Int) (rd l i) true else scalar_FromUnits.j1 (k + 1) l acc (i : Int) (rd l i) (decide (rd l i > 57343))) = scalar_FromUnits.j1 (k + 1) l acc (i : Int) (rd l i) false := by
          rw [if_neg (by omega), decide_eq_false (by omega)]
        rw [hb]
        simp only [scalar_FromUnits.j1, Bool.false_eq_true, if_false, e2, e3]
        by_cases hq : rd l i < 56320
        · rw [if_pos hq]
          by_cases h4 : i + 1 < l.length
          · rw [if_pos (by omega), if_pos (by omega)]
            by_cases h5 : rd l ((i : Int) + 1) ≥ 56320
            · rw [if_pos h5]
              by_cases h6 : rd l ((i : Int) + 1) ≤ 57343
              · rw [if_pos h6, if_pos (by omega), show wrap32 (rd l i - 55296) = rd l i - 55296 by unfold wrap32; omega, show wrap32 ((rd l i - 55296) * 1024) = (rd l i - 55296) * 1024 by unfold wrap32; omega, show wrap32 (65536 + (rd l i - 55296) * 1024) = 65536 + (rd l i - 55296) * 1024 by unfold wrap32; omega, show wrap32 (65536 + (rd l i - 55296) * 1024 + rd l ((i : Int) + 1)) = 65536 + (rd l i - 55296) * 1024 + rd l ((i : Int) + 1) by unfold wrap32; omega, show wrap32 (65536 + (rd l i - 55296) * 1024 + rd l ((i : Int) + 1) - 56320) = 65536 + 1024 * (rd l i - 55296) + rd l ((i : Int) + 1) - 56320 by unfold wrap32; omega, show wrap64 ((i : Int) + 1 + 1) = ((i + 2 : Nat) : Int) by unfold wrap64; omega, ih (n - 2) (by omega) k (i + 2) _ (by omega) (by omega) (by rw [List.length_append, List.length_singleton]; omega) (by omega), frm_pair l i h4 (by omega) (by omega)]
                simp
              · rw [if_neg h6, if_pos (by omega), step, frm_lone l i hlt (by omega) (by omega)]
            · rw [if_neg h5, if_pos (by omega), step, frm_lone l i hlt (by omega) (by omega)]
          · rw [if_neg (by omega), if_pos (by omega), step, frm_lone l i hlt (by omega) (by omega)]
        · rw [if_neg hq, if_pos (by omega), step, frm_lone l i hlt (by omega) (by omega)]
    · obtain rfl : i = l.length := by omega
      rw [if_neg (by omega), List.drop_length]
      simp [frmU]
theorem FromUnits_is (l : List Int) (hr : ∀ x ∈ l, 0 ≤ x ∧ x ≤ 65535) (hl : l.length ≤ 9000000000000) (k : Nat) (hk : 2 * l.length < k) : scalar_FromUnits.f k l = some (frmU l) := by
  unfold scalar_FromUnits.f
  have := FromUnits_l0 l hr hl l.length k 0 [] (by omega) (by omega) (by simp) hk
  simpa using this
theorem RFromUnits_l0 (l : List Int) (hr : ∀ x ∈ l, 0 ≤ x ∧ x ≤ 65535) (hl : l.length ≤ 9000000000000) : ∀ (n k i : Nat) (acc : List Int), l.length - i = n → i ≤ l.length → acc.length ≤ i → 2 * n < k → posternref02_FromUnits.l0 k l acc (i : Int) = some (acc ++ frmU (l.drop i)) := by
  intro n
  induction n using Nat.strongRecOn with
  | ind n ih =>
    intro k i acc h1 h2 h3 hk
    obtain ⟨k, rfl⟩ : ∃ m, k = m + 1 := ⟨k - 1, by omega⟩
    simp only [posternref02_FromUnits.l0]
    by_cases hlt : i < l.length
    · obtain ⟨k, rfl⟩ : ∃ m, k = m + 1 := ⟨k - 1, by omega⟩
      have hx := rd_range hr (by decide) (i : Int)
      have hy := rd_range hr (by decide) ((i : Int) + 1)
      have e1 : wrap32 (rd l i) = rd l i := by unfold wrap32; omega
      have e2 : wrap64 ((i : Int) + 1) = (i : Int) + 1 := by unfold wrap64; omega
      have e2' : ((i : Int) + 1) = ((i + 1 : Nat) : Int) := by omega
      have e3 : wrap32 (rd l ((i : Int) + 1)) = rd l ((i : Int) + 1) := by unfold wrap32; omega
      have step : ∀ x, posternref02_FromUnits.l0 k l (acc ++ [x]) ((i : Int) + 1) = some (acc ++ (x :: frmU (l.drop (i + 1)))) := fun x => by
        rw [e2', ih (n - 1) (by omega) k (i + 1) (acc ++ [x]) (by omega) (by omega) (by rw [List.length_append, List.length_singleton]; omega) (by omega)]
        simp
      rw [if_pos (by omega), if_pos (by omega), e1]
      by_cases hp : rd l i < 55296 ∨ 57343 < rd l i
      · have hb : (if rd l i < 55296 then posternref02_FromUnits.j1 (k + 1) l acc (i : Int) (rd l i) true else posternref02_FromUnits.j1 (k + 1) l acc (i : Int) (rd l i) (decide (rd l i > 57343))) = posternref02_FromUnits.j1 (k + 1) l acc (i : Int) (rd l i) true := by
          split
          · rfl
          · rw [decide_eq_true (by omega)]
        rw [hb]
        simp only [posternref02_FromUnits.j1, if_true]
        rw [if_pos (by omega), e2, step, frm_plain l i hlt hp]
      · have hb : (if rd l i < 55296 then posternref02_FromUnits.j1 (k + 1) l acc (i : Int) (rd l i) true else posternref02_FromUnits.j1 (k + 1) l acc (i : Int) (rd l i) (decide (rd l i > 57343))) = posternref02_FromUnits.j1 (k + 1) l acc (i : Int) (rd l i) false := by
          rw [if_neg (by omega), decide_eq_false (by omega)]
        rw [hb]
        simp only [posternref02_FromUnits.j1, Bool.false_eq_true, if_false, e2, e3]
        by_cases hq : rd l i < 56320
        · rw [if_pos hq]
          by_cases h4 : i + 1 < l.length
          · rw [if_pos (by omega), if_pos (by omega)]
            by_cases h5 : rd l ((i : Int) + 1) ≥ 56320
            · rw [if_pos h5]
              by_cases h6 : rd l ((i : Int) + 1) ≤ 57343
              · rw [if_pos h6, if_pos (by omega), show wrap32 (rd l i - 55296) = rd l i - 55296 by unfold wrap32; omega, show wrap32 (1024 * (rd l i - 55296)) = 1024 * (rd l i - 55296) by unfold wrap32; omega, show wrap32 (65536 + 1024 * (rd l i - 55296)) = 65536 + 1024 * (rd l i - 55296) by unfold wrap32; omega, show wrap32 (65536 + 1024 * (rd l i - 55296) + rd l ((i : Int) + 1)) = 65536 + 1024 * (rd l i - 55296) + rd l ((i : Int) + 1) by unfold wrap32; omega, show wrap32 (65536 + 1024 * (rd l i - 55296) + rd l ((i : Int) + 1) - 56320) = 65536 + 1024 * (rd l i - 55296) + rd l ((i : Int) + 1) - 56320 by unfold wrap32; omega, show wrap64 ((i : Int) + 1 + 1) = ((i + 2 : Nat) : Int) by unfold wrap64; omega, ih (n - 2) (by omega) k (i + 2) _ (by omega) (by omega) (by rw [List.length_append, List.length_singleton]; omega) (by omega), frm_pair l i h4 (by omega) (by omega)]
                simp
              · rw [if_neg h6, if_pos (by omega), step, frm_lone l i hlt (by omega) (by omega)]
            · rw [if_neg h5, if_pos (by omega), step, frm_lone l i hlt (by omega) (by omega)]
          · rw [if_neg (by omega), if_pos (by omega), step, frm_lone l i hlt (by omega) (by omega)]
        · rw [if_neg hq, if_pos (by omega), step, frm_lone l i hlt (by omega) (by omega)]
    · obtain rfl : i = l.length := by omega
      rw [if_neg (by omega), List.drop_length]
      simp [frmU]
theorem RFromUnits_is (l : List Int) (hr : ∀ x ∈ l, 0 ≤ x ∧ x ≤ 65535) (hl : l.length ≤ 9000000000000) (k : Nat) (hk : 2 * l.length < k) : posternref02_FromUnits.f k l = some (frmU l) := by
  unfold posternref02_FromUnits.f
  have := RFromUnits_l0 l hr hl l.length k 0 [] (by omega) (by omega) (by simp) hk
  simpa using this
end UF
theorem reads_blk {k : IntKind} {w w' : World} {A : Option Addr} {n : Nat} {xs : List Int} (h : ReadsInt w k A n xs) (hb : ∀ ad, A = some ad → w'.heap[ad.block]? = w.heap[ad.block]?) : ReadsInt w' k A n xs := by
  refine ⟨h.1, h.2.1, fun hn => ?_⟩
  obtain ⟨ad, e, hc⟩ := h.2.2 hn
  refine ⟨ad, e, fun j hj => ?_⟩
  rw [← hc j hj]
  refine World.cell?_of_block ?_
  have ea : (ad.add j).block = ad.block := by unfold Addr.add; split <;> rfl
  rw [ea]
  exact hb ad e
/-- what stands behind the appends, and behind the stores -/
structure FeedAft (w0 w w2 : World) (g : Nat) (h u : Int) (xs : List Int) (ad : Addr) : Prop where
  c0 : w2.cell? ⟨g, 0, none⟩ = some (.int .u16 h)
  f0 : w2.frozen? ⟨g, 0, none⟩ = false
  r1 : ReadsInt (w2.setCell ⟨g, 0, none⟩ (.int .u16 0)) .u16 (some ad) xs.length xs
  d1 : (w2.setCell ⟨g, 0, none⟩ (.int .u16 0)).cell? (ad.add (xs.length - 1)) = some (.int .u16 u)
  i1 : IsS104 w0 (w2.setCell ⟨g, 0, none⟩ (.int .u16 0)) g 0
  k1 : KeepBut w (w2.setCell ⟨g, 0, none⟩ (.int .u16 0)) g none
  c1 : (w2.setCell ⟨g, 0, none⟩ (.int .u16 0)).cell? ⟨g, 0, none⟩ = some (.int .u16 0)
  f1 : (w2.setCell ⟨g, 0, none⟩ (.int .u16 0)).frozen? ⟨g, 0, none⟩ = false
  r2 : ReadsInt ((w2.setCell ⟨g, 0, none⟩ (.int .u16 0)).setCell ⟨g, 0, none⟩ (.int .u16 u)) .u16 (some ad) xs.length xs
  i2 : IsS104 w0 ((w2.setCell ⟨g, 0, none⟩ (.int .u16 0)).setCell ⟨g, 0, none⟩ (.int .u16 u)) g u
  k2 : KeepBut w ((w2.setCell ⟨g, 0, none⟩ (.int .u16 0)).setCell ⟨g, 0, none⟩ (.int .u16 u)) g none
  b1 : Below w0.heap.size w0 (w2.setCell ⟨g, 0, none⟩ (.int .u16 0))
  b2 : Below w0.heap.size w0 ((w2.setCell ⟨g, 0, none⟩ (.int .u16 0)).setCell ⟨g, 0, none⟩ (.int .u16 u))
theorem feed_aft {w0 w w2 : World} {g : Nat} {h u : Int} {xs : List Int} {v : Value} (hI : IsS104 w0 w g h) (hB0 : Below w0.heap.size w0 w) (hn : 0 < xs.length) (hu : rd xs ((xs.length : Int) - 1) = u) (HO : w2.ownsRow w.heap.size 69 1 v xs.length (nums .u16 xs)) (hB : Below w.heap.size w w2) :
    ∃ ad c2, v = .slice (some ad) xs.length c2 ∧ xs.length ≤ c2 ∧ FeedAft w0 w w2 g h u xs ad := by
  obtain ⟨q, cap, hv, hBq, hlt⟩ := HO.form (by omega)
  have hgl := hI.lt
  have hgg := hI.ge
  have hq : g ≠ q := by omega
  obtain ⟨A, c, e, hr⟩ := own_reads HO
  rw [hv] at e
  injection e with e1 e2 e3
  subst e1
  have hI2 := hI.below hB
  obtain ⟨G, _⟩ := hI2
  have hfar : ∀ (W : World) (x : Value), ReadsInt W .u16 (some ⟨q, 0, none⟩) xs.length xs → ReadsInt (W.setCell ⟨g, 0, none⟩ x) .u16 (some ⟨q, 0, none⟩) xs.length xs := fun W x hR => reads_blk hR fun ad e => by
    injection e with e
    subst e
    exact Below.heap_setCell W ⟨g, 0, none⟩ x q (fun e => hq e.symm)
  have hI3 := (hI.below hB).set_0 0
  have hI4 := hI3.set_0 u
  have r1 := hfar w2 (.int .u16 0) hr
  obtain ⟨ad, e, d1⟩ := r1.at_ ((xs.length : Int) - 1) (by omega) (by omega)
  injection e with e
  subst e
  rw [hu, show ((xs.length : Int) - 1).toNat = xs.length - 1 by omega] at d1
  have k0 := KeepBut.of_below hB g none
  have hb02 : Below w0.heap.size w0 w2 := below_after hB0 hB
  refine ⟨⟨q, 0, none⟩, cap, hv, ?_, cellS104_0 G, blk_frozen G 0, r1, d1, hI3, k0.set_ 0 _, cellS104_0 hI3.1, blk_frozen hI3.1 0, hfar _ _ r1, hI4, (k0.set_ 0 _).set_ 0 _, below_set hb02 hgg _, below_set (below_set hb02 hgg _) hgg _⟩
  rw [hv] at HO
  exact own_le HO
set_option maxRecDepth 100000 in
set_option maxHeartbeats 4000000 in
theorem UFeed_any (l : List Int) (A : Option Addr) (c g : Nat) (h : Int) (w0 w : World) (hI : IsS104 w0 w g h) (hB : Below w0.heap.size w0 w) (hl : l.length ≤ 1048576) (hc : l.length ≤ c) (hR : ReadsInt w .u16 A l.length l) (hr : ∀ x ∈ l, 0 ≤ x ∧ x ≤ 65535) (hh : 0 ≤ h ∧ h ≤ 65535) :
    Calls Tryd.prog 48 #[.pointer (some ⟨g, 0, none⟩), .slice A l.length c] w fun e w' => ∃ v : Value, e = .returned v ∧ Kd.R (Kd.int .i32) 21 w' w.heap.size (fun _ => True) v (if l = [] then [] else frmU (sureU (preU h ++ l))) ∧ IsS104 w0 w' g (if l = [] then h else heldU (preU h ++ l)) ∧ Below w0.heap.size w0 w' ∧ KeepBut w w' g none := by
  by_cases hl0 : l = []
  · subst hl0
    have HI := Lib.hid hI
    have HB := Lib.hid hB
    clear hI hB hR
    go_enter Tryd.func48, Tryd.ntmps48
    go_wp2
    go_ret
    exact ⟨_, rfl, Kd.R_nil _ _ _ _ _, HI.out, HB.out, KeepBut.refl _ _ _⟩
  · have hpos : 0 < l.length := List.length_pos_iff.2 hl0
    rw [if_neg hl0, if_neg hl0]
    have hxr : ∀ x ∈ preU h ++ l, 0 ≤ x ∧ x ≤ 65535 := by
      intro x hx
      rcases List.mem_append.1 hx with hx | hx
      · unfold preU at hx
        split at hx
        · rw [List.mem_singleton.1 hx]; exact hh
        · cases hx
      · exact hr x hx
    have hxl : (preU h ++ l).length ≤ 1048577 ∧ 0 < (preU h ++ l).length := by
      rw [List.length_append]
      unfold preU
      split <;> simp <;> omega
    have hp0 : h = 0 → preU h ++ l = l := fun e => by simp [preU, e]
    have hp1 : h ≠ 0 → preU h ++ l = [h] ++ l := fun e => by simp [preU, e]
    generalize preU h ++ l = xs at *
    obtain ⟨u, hu⟩ : ∃ u, rd xs ((xs.length : Int) - 1) = u := ⟨_, rfl⟩
    rw [sureU_rd xs hxl.2, heldU_rd xs hxl.2, hu]
    have hur : 0 ≤ u ∧ u ≤ 65535 := by
      rw [← hu]
      unfold rd
      rw [List.getD_eq_getElem?_getD, List.getElem?_eq_getElem (by omega)]
      exact hxr _ (List.getElem_mem _)
    have hFr : ∀ (y : List Int) (n : Nat) (A : Option Addr) (c : Nat) (W : World), y.length = n → (∀ x ∈ y, 0 ≤ x ∧ x ≤ 65535) → n ≤ 1048577 → n ≤ c → ReadsInt W .u16 A y.length y →
        Calls Tryd.prog 41 #[.slice A n c] W fun e w' => ∃ v : Value, e = .returned v ∧ Kd.R (Kd.int .i32) 21 w' W.heap.size (fun _ => True) v (frmU y) ∧ Below W.heap.size W w' := by
      intro y n A c W hn hy hyl hc R
      subst hn
      exact scalar_FromUnits.calls 9000000 A c y (frmU y) W (C_of_ints R) hc (UF.FromUnits_is y hy (by omega) 9000000 (by omega))
    have HFr := Lib.hid hFr
    have hA := fun w2 v HO hB2 => feed_aft (w2 := w2) (v := v) hI hB hxl.2 hu HO hB2
    have HA := Lib.hid hA
    have HI := Lib.hid hI
    obtain ⟨G, hgg⟩ := hI
    have hc0 := cellS104_0 G
    have hf0 := blk_frozen G 0
    have HR := Lib.hid hR
    have HXR := Lib.hid hxr
    have hgl := HI.out.lt
    clear G hB hFr hA hR hr hxr hu
    by_cases hh0 : h = 0
    · have hp := Lib.hid (hp0 hh0)
      clear hp0 hp1
      subst hh0
      by_cases hhi : 55296 ≤ u ∧ u ≤ 56319
      · rw [if_pos hhi, if_pos hhi, show xs.length - 1 = ((xs.length : Int) - 1).toNat by omega]
        go_enter Tryd.func48, Tryd.ntmps48
        go_wp2_with (first
          | (go_at_call 41; go_loud ((with_reducible refine (HFr.out (xs.take ((xs.length : Int) - 1).toNat) (xs.length - 1) (some ad) c2 _ (by rw [List.length_take]; omega) (fun x hx => HXR.out x (List.mem_of_mem_take hx)) (by omega) (by omega) (hrt _ R2.out)).mono ?_); rintro e w5 ⟨v5, rfl, hR5, hb5⟩))
          | (at_builtin; go_loud (refine print_append_row (w0 := w) w.heap.size rfl (.tmp 26) (.tmp 27) 45 69 .u16 2 rfl Tryd.underlying45 info69 (by decide) _ [] l A l.length c rfl rfl ⟨rfl, .inl ⟨rfl, rfl⟩⟩ HR.out (Below.refl _ _) (Nat.le_refl _) (by simp; omega) ?_; intro v2 w2 ho2 hb2 hg2 hat2; rw [List.nil_append, ← hp.out] at ho2; obtain ⟨ad, c2, rfl, hc2, FF⟩ := HA.out w2 v2 ho2 hb2; have c20 := FF.c0; have f20 := FF.f0; have d21 := FF.d1; have c21 := FF.c1; have f21 := FF.f1; have R1 := Lib.hid FF.r1; have R2 := Lib.hid FF.r2; have KK := Lib.hid FF.k2; have II := Lib.hid FF.i2; have BB := Lib.hid FF.b2; obtain ⟨i0, hi0, hz0, hz1, hz2⟩ := info_parts info69; obtain ⟨hct, hrt, hlt⟩ := print_take_int (P := Tryd.prog) (k := .u16) 45 69 Tryd.underlying45 hi0 hz1 (some ad) c2 xs ((xs.length : Int) - 1) (by omega) (by omega) hc2; clear hz2 hz1 hz0 hi0 i0; clear FF)))
        go_ret
        exact ⟨_, rfl, Kd.R_lower hR5 KK.out.1, II.out.below hb5, below_after BB.out hb5, KK.out.trans (KeepBut.of_below hb5 g none) (Or.inl rfl)⟩
      · rw [if_neg hhi, if_neg hhi]
        by_cases hlo : 55296 ≤ u
        · have hup : 56320 ≤ u := by omega
          go_enter Tryd.func48, Tryd.ntmps48
          go_wp2_with (first
            | (go_at_call 41; go_loud ((with_reducible refine (HFr.out xs xs.length (some ad) c2 _ rfl HXR.out (by omega) hc2 R1.out).mono ?_); rintro e w5 ⟨v5, rfl, hR5, hb5⟩))
            | (at_builtin; go_loud (refine print_append_row (w0 := w) w.heap.size rfl (.tmp 26) (.tmp 27) 45 69 .u16 2 rfl Tryd.underlying45 info69 (by decide) _ [] l A l.length c rfl rfl ⟨rfl, .inl ⟨rfl, rfl⟩⟩ HR.out (Below.refl _ _) (Nat.le_refl _) (by simp; omega) ?_; intro v2 w2 ho2 hb2 hg2 hat2; rw [List.nil_append, ← hp.out] at ho2; obtain ⟨ad, c2, rfl, hc2, FF⟩ := HA.out w2 v2 ho2 hb2; have c20 := FF.c0; have f20 := FF.f0; have d21 := FF.d1; have c21 := FF.c1; have f21 := FF.f1; have R1 := Lib.hid FF.r1; have R2 := Lib.hid FF.r2; have KK := Lib.hid FF.k1; have II := Lib.hid FF.i1; have BB := Lib.hid FF.b1;  clear FF)))
          go_ret
          exact ⟨_, rfl, Kd.R_lower hR5 KK.out.1, II.out.below hb5, below_after BB.out hb5, KK.out.trans (KeepBut.of_below hb5 g none) (Or.inl rfl)⟩
        · go_enter Tryd.func48, Tryd.ntmps48
          go_wp2_with (first
            | (go_at_call 41; go_loud ((with_reducible refine (HFr.out xs xs.length (some ad) c2 _ rfl HXR.out (by omega) hc2 R1.out).mono ?_); rintro e w5 ⟨v5, rfl, hR5, hb5⟩))
            | (at_builtin; go_loud (refine print_append_row (w0 := w) w.heap.size rfl (.tmp 26) (.tmp 27) 45 69 .u16 2 rfl Tryd.underlying45 info69 (by decide) _ [] l A l.length c rfl rfl ⟨rfl, .inl ⟨rfl, rfl⟩⟩ HR.out (Below.refl _ _) (Nat.le_refl _) (by simp; omega) ?_; intro v2 w2 ho2 hb2 hg2 hat2; rw [List.nil_append, ← hp.out] at ho2; obtain ⟨ad, c2, rfl, hc2, FF⟩ := HA.out w2 v2 ho2 hb2; have c20 := FF.c0; have f20 := FF.f0; have d21 := FF.d1; have c21 := FF.c1; have f21 := FF.f1; have R1 := Lib.hid FF.r1; have R2 := Lib.hid FF.r2; have KK := Lib.hid FF.k1; have II := Lib.hid FF.i1; have BB := Lib.hid FF.b1;  clear FF)))
          go_ret
          exact ⟨_, rfl, Kd.R_lower hR5 KK.out.1, II.out.below hb5, below_after BB.out hb5, KK.out.trans (KeepBut.of_below hb5 g none) (Or.inl rfl)⟩
    · have hp := Lib.hid (hp1 hh0)
      clear hp0 hp1
      have hb0 : (h == 0) = false := beq_eq_false_iff_ne.mpr hh0
      have hb1 : (h != 0) = true := bne_iff_ne.mpr hh0
      by_cases hhi : 55296 ≤ u ∧ u ≤ 56319
      · rw [if_pos hhi, if_pos hhi, show xs.length - 1 = ((xs.length : Int) - 1).toNat by omega]
        go_enter Tryd.func48, Tryd.ntmps48
        go_wp2_with (first
          | (go_at_call 41; go_loud ((with_reducible refine (HFr.out (xs.take ((xs.length : Int) - 1).toNat) (xs.length - 1) (some ad) c2 _ (by rw [List.length_take]; omega) (fun x hx => HXR.out x (List.mem_of_mem_take hx)) (by omega) (by omega) (hrt _ R2.out)).mono ?_); rintro e w5 ⟨v5, rfl, hR5, hb5⟩))
          | (at_builtin; (refine print_append_num (w0 := w) (W := w) w.heap.size rfl (.tmp 19) (.tmp 24) 45 69 .u16 2 rfl Tryd.underlying45 info69 (by decide) _ [] h rfl rfl ⟨rfl, .inl ⟨rfl, rfl⟩⟩ (Below.refl _ _) (Nat.le_refl _) (by simp) ?_; intro v1 w1 ho1 hb1 hg1 hat1))
          | (at_builtin; go_loud (refine print_append_row (w0 := w) w.heap.size rfl (.tmp 26) (.tmp 27) 45 69 .u16 2 rfl Tryd.underlying45 info69 (by decide) _ [h] l A l.length c rfl rfl ho1 (HR.out.below hb1) hb1 hb1.size (by simp; omega) ?_; intro v2 w2 ho2 hb2 hg2 hat2; rw [← hp.out] at ho2; obtain ⟨ad, c2, rfl, hc2, FF⟩ := HA.out w2 v2 ho2 hb2; have c20 := FF.c0; have f20 := FF.f0; have d21 := FF.d1; have c21 := FF.c1; have f21 := FF.f1; have R1 := Lib.hid FF.r1; have R2 := Lib.hid FF.r2; have KK := Lib.hid FF.k2; have II := Lib.hid FF.i2; have BB := Lib.hid FF.b2; obtain ⟨i0, hi0, hz0, hz1, hz2⟩ := info_parts info69; obtain ⟨hct, hrt, hlt⟩ := print_take_int (P := Tryd.prog) (k := .u16) 45 69 Tryd.underlying45 hi0 hz1 (some ad) c2 xs ((xs.length : Int) - 1) (by omega) (by omega) hc2; clear hz2 hz1 hz0 hi0 i0; clear FF)))
        go_ret
        exact ⟨_, rfl, Kd.R_lower hR5 KK.out.1, II.out.below hb5, below_after BB.out hb5, KK.out.trans (KeepBut.of_below hb5 g none) (Or.inl rfl)⟩
      · rw [if_neg hhi, if_neg hhi]
        by_cases hlo : 55296 ≤ u
        · have hup : 56320 ≤ u := by omega
          go_enter Tryd.func48, Tryd.ntmps48
          go_wp2_with (first
            | (go_at_call 41; go_loud ((with_reducible refine (HFr.out xs xs.length (some ad) c2 _ rfl HXR.out (by omega) hc2 R1.out).mono ?_); rintro e w5 ⟨v5, rfl, hR5, hb5⟩))
            | (at_builtin; (refine print_append_num (w0 := w) (W := w) w.heap.size rfl (.tmp 19) (.tmp 24) 45 69 .u16 2 rfl Tryd.underlying45 info69 (by decide) _ [] h rfl rfl ⟨rfl, .inl ⟨rfl, rfl⟩⟩ (Below.refl _ _) (Nat.le_refl _) (by simp) ?_; intro v1 w1 ho1 hb1 hg1 hat1))
            | (at_builtin; go_loud (refine print_append_row (w0 := w) w.heap.size rfl (.tmp 26) (.tmp 27) 45 69 .u16 2 rfl Tryd.underlying45 info69 (by decide) _ [h] l A l.length c rfl rfl ho1 (HR.out.below hb1) hb1 hb1.size (by simp; omega) ?_; intro v2 w2 ho2 hb2 hg2 hat2; rw [← hp.out] at ho2; obtain ⟨ad, c2, rfl, hc2, FF⟩ := HA.out w2 v2 ho2 hb2; have c20 := FF.c0; have f20 := FF.f0; have d21 := FF.d1; have c21 := FF.c1; have f21 := FF.f1; have R1 := Lib.hid FF.r1; have R2 := Lib.hid FF.r2; have KK := Lib.hid FF.k1; have II := Lib.hid FF.i1; have BB := Lib.hid FF.b1;  clear FF)))
          go_ret
          exact ⟨_, rfl, Kd.R_lower hR5 KK.out.1, II.out.below hb5, below_after BB.out hb5, KK.out.trans (KeepBut.of_below hb5 g none) (Or.inl rfl)⟩
        · go_enter Tryd.func48, Tryd.ntmps48
          go_wp2_with (first
            | (go_at_call 41; go_loud ((with_reducible refine (HFr.out xs xs.length (some ad) c2 _ rfl HXR.out (by omega) hc2 R1.out).mono ?_); rintro e w5 ⟨v5, rfl, hR5, hb5⟩))
            | (at_builtin; (refine print_append_num (w0 := w) (W := w) w.heap.size rfl (.tmp 19) (.tmp 24) 45 69 .u16 2 rfl Tryd.underlying45 info69 (by decide) _ [] h rfl rfl ⟨rfl, .inl ⟨rfl, rfl⟩⟩ (Below.refl _ _) (Nat.le_refl _) (by simp) ?_; intro v1 w1 ho1 hb1 hg1 hat1))
            | (at_builtin; go_loud (refine print_append_row (w0 := w) w.heap.size rfl (.tmp 26) (.tmp 27) 45 69 .u16 2 rfl Tryd.underlying45 info69 (by decide) _ [h] l A l.length c rfl rfl ho1 (HR.out.below hb1) hb1 hb1.size (by simp; omega) ?_; intro v2 w2 ho2 hb2 hg2 hat2; rw [← hp.out] at ho2; obtain ⟨ad, c2, rfl, hc2, FF⟩ := HA.out w2 v2 ho2 hb2; have c20 := FF.c0; have f20 := FF.f0; have d21 := FF.d1; have c21 := FF.c1; have f21 := FF.f1; have R1 := Lib.hid FF.r1; have R2 := Lib.hid FF.r2; have KK := Lib.hid FF.k1; have II := Lib.hid FF.i1; have BB := Lib.hid FF.b1;  clear FF)))
          go_ret
          exact ⟨_, rfl, Kd.R_lower hR5 KK.out.1, II.out.below hb5, below_after BB.out hb5, KK.out.trans (KeepBut.of_below hb5 g none) (Or.inl rfl)⟩
end Go.Proofs.YtgippjhkimohlaaDoor
