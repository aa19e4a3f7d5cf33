/- Percent: percent.walk over a text, by whatever closure. -/
import Derived.Test.YtfbgmlophkbejaaPctB
import Derived.ScopeJumps
import Derived.WalkMore
set_option linter.unusedVariables false
set_option linter.unusedSimpArgs false
namespace Go.Proofs.Ytfbgmlophkbejaa
open Go.RowKit Go.Proofs.YtfbgmlophkbejaaW.PrintWords Go.Proofs.YtfbgmlophkbejaaW.PrintLast
/-- the place behind the item at p, and the byte that it says -/
def nxtC (s : ByteArray) (p : Int) : Int := if isC s p = true then p + 3 else p + 1
def byteC (s : ByteArray) (p : Int) : Int := if isC s p = true then sayC s p else bt s p
theorem bt_cut (s : ByteArray) (p i : Int) (h0 : 0 ≤ p) (hi : 0 ≤ i) : bt (s.extract p.toNat s.size) i = bt s (p + i) := by
  unfold bt
  have e : (s.extract p.toNat s.size).size = s.size - p.toNat := by simp
  by_cases h : (p + i).toNat < s.size
  · rw [dif_pos h, dif_pos (by rw [e]; omega)]
    have h2 : p.toNat + i.toNat = (p + i).toNat := by omega
    have h3 : (s.extract p.toNat s.size)[i.toNat]'(by rw [e]; omega) = s[p.toNat + i.toNat]'(by omega) := ByteArray.getElem_extract _
    rw [h3]
    congr 2
    all_goals simp only [h2]
  · rw [dif_neg h, dif_neg (by rw [e]; omega)]
theorem isC_cut (s : ByteArray) (p : Int) (h0 : 0 ≤ p) (h1 : p ≤ s.size) : isC (s.extract p.toNat s.size) 0 = isC s p := by
  have e : ((s.extract p.toNat s.size).size : Int) = s.size - p := by
    have : (s.extract p.toNat s.size).size = s.size - p.toNat := by simp
    omega
  unfold isC
  rw [e, bt_cut s p 0 h0 (by omega), bt_cut s p _ h0 (by omega), bt_cut s p _ h0 (by omega)]
  simp only [Int.add_zero, Int.zero_add]
  congr 3
  exact decide_eq_decide.2 ⟨fun h => by omega, fun h => by omega⟩
theorem sayC_cut (s : ByteArray) (p : Int) (h0 : 0 ≤ p) : sayC (s.extract p.toNat s.size) 0 = sayC s p := by
  unfold sayC
  rw [bt_cut s p _ h0 (by omega), bt_cut s p _ h0 (by omega)]
  rfl
def WalkJ (s : ByteArray) (g : Value) (I : Int → World → Prop) (a : Act) (w : World) : Prop :=
  ∃ (p : Int), 0 ≤ p ∧ p ≤ s.size ∧ I p w ∧ a.defers = [] ∧ ∃ (u5 u6 u7 u8 u9 u10 u11 u12 u13 u14 u15 u16 u17 u18 u19 u20 u21 u22 u23 u24 u25 u26 u27 u28 u29 u30 u31 u32 : Value), a.tmps = #[.string s, g, undef, undef, .int .i64 p, u5, u6, u7, u8, u9, u10, u11, u12, u13, u14, u15, u16, u17, u18, u19, u20, u21, u22, u23, u24, u25, u26, u27, u28, u29, u30, u31, u32]
theorem wp_scope_jumps2 {P : Program} {a : Act} {w : World} {Q : Exit → Act → World → Prop} {c X : Code} (l : Nat) (J : Act → World → Prop) (μ : Act → World → Nat) (hf : findLabel c l = some (Code.skip.seq X))
    (pass : ∀ a w, J a w → X.wp P (Exit.jump l (fun a' w' => J a' w' ∧ μ a' w' < μ a w) Q) a w)
    (first : Hid (∀ a w, J a w → X.wp P (Exit.jump l J Q) a w) → c.wp P (Exit.jump l J Q) a w) : (Code.scope c).wp P Q a w :=
  wp_scope_jumps l J μ hf (first (Lib.hid fun a w h => wp_mono (pass a w h) fun e a w q => by
    cases e <;> first | exact q | exact ⟨q.1, q.2.1⟩)) (fun a w h => wp_seq (wp_skip (pass a w h)))
theorem walk_any (F : Nat) (caps : Array Value) (eg : ∀ args w, (callFunc F args).run Try.prog w = .ok (.enter F args) w) (s : ByteArray) (hs : s.size ≤ 140737488351232) (I : Int → World → Prop)
    (keep : ∀ p w w', I p w → Below w.heap.size w w' → I p w')
    (step : ∀ (p : Int) w, 0 ≤ p → p < s.size → I p w → Calls Try.prog F (#[.int .i64 p, .int .u8 (byteC s p), .bool (isC s p)] ++ caps) w fun e w' => e = .returned (.tuple #[]) ∧ I (nxtC s p) w')
    (w : World) (h0 : I 0 w) : Calls Try.prog 26 #[.string s, .func (.func F) #[] caps] w fun e w' => e = .returned (.tuple #[]) ∧ I s.size w' := by
  go_enter Try.func26, Try.ntmps26
  go_wp2
  refine wp_scope_jumps2 0 (WalkJ s (.func (.func F) #[] caps) I) (fun a' _ => s.size - (intOf (a'.tmps.getD 4 undef)).toNat) rfl ?_ ?_
  · rintro ⟨tmps, defers⟩ w' ⟨p, hp0, hp1, hI, hdf, u5, u6, u7, u8, u9, u10, u11, u12, u13, u14, u15, u16, u17, u18, u19, u20, u21, u22, u23, u24, u25, u26, u27, u28, u29, u30, u31, u32, htm⟩
    simp only at hdf htm
    subst hdf htm
    clear h0
    by_cases hlt : p < s.size
    · have hsz : (s.extract p.toNat s.size).size ≤ 140737488351232 := by
        have : (s.extract p.toNat s.size).size = s.size - p.toNat := by simp
        omega
      have hC := coded_any (s.extract p.toNat s.size) w' hsz
      cases hc : isC s p
      · have hC1 : Calls Try.prog 39 #[.string (s.extract p.toNat s.size)] w' fun e w1 => ∃ v : Int, e = .returned (.tuple #[.int .u8 v, .bool false]) ∧ Below w'.heap.size w' w1 := hC.mono fun e w1 ⟨v, h1, h2, h3⟩ => ⟨v, by rw [isC_cut s p hp0 hp1, hc] at h2; exact h2, h3⟩
        have HC := Lib.hid hC1
        have hst := fun w1 hb => step p w1 hp0 hlt (keep p w' w1 hI hb)
        unfold byteC nxtC at hst
        rw [hc, if_neg (by simp), if_neg (by simp)] at hst
        have Hst := Lib.hid hst
        clear hC hC1 hst hI keep step
        have hbt := bt_at s p
        go_wp2_with (go_at_call 39; refine (HC.out).mono ?_; rintro e w1 ⟨v, rfl, hb⟩)
        refine (Hst.out _ hb).mono ?_
        rintro e w2 ⟨rfl, hI2⟩
        have HI2 := Lib.hid hI2
        clear hI2
        go_wp2
        go_step3
        exact ⟨rfl, ⟨_, by omega, by omega, HI2.out, rfl, _, _, _, _, _, _, _, _, _, _, _, _, _, _, _, _, _, _, _, _, _, _, _, _, _, _, _, _, rfl⟩, by simp [intOf]; omega⟩
      · have hp3 : p + 3 ≤ s.size := by
          unfold isC at hc
          simp only [Bool.and_eq_true, decide_eq_true_eq] at hc
          omega
        have hC1 : Calls Try.prog 39 #[.string (s.extract p.toNat s.size)] w' fun e w1 => e = .returned (.tuple #[.int .u8 (sayC s p), .bool true]) ∧ Below w'.heap.size w' w1 := hC.mono fun e w1 ⟨v, h1, h2, h3⟩ => ⟨by rw [isC_cut s p hp0 hp1, hc] at h1 h2; rw [h1 rfl, sayC_cut s p hp0] at h2; exact h2, h3⟩
        have HC := Lib.hid hC1
        have hst := fun w1 hb => step p w1 hp0 hlt (keep p w' w1 hI hb)
        unfold byteC nxtC at hst
        rw [hc, if_pos rfl, if_pos rfl] at hst
        have Hst := Lib.hid hst
        clear hC hC1 hst hI keep step
        have hbt := bt_at s p
        go_wp2_with (go_at_call 39; refine (HC.out).mono ?_; rintro e w1 ⟨rfl, hb⟩)
        refine (Hst.out _ hb).mono ?_
        rintro e w2 ⟨rfl, hI2⟩
        have HI2 := Lib.hid hI2
        clear hI2
        go_wp2
        go_step3
        exact ⟨rfl, ⟨_, by omega, by omega, HI2.out, rfl, _, _, _, _, _, _, _, _, _, _, _, _, _, _, _, _, _, _, _, _, _, _, _, _, _, _, _, _, rfl⟩, by simp [intOf]; omega⟩
    · obtain rfl : p = s.size := by omega
      go_wp2
      simp only [Exit.jump]
      have HI := Lib.hid hI
      exact bodyPost_ret (v := .tuple #[]) (by simp [results, Try.results26, go_sem]) rfl ⟨rfl, HI.out⟩
  · intro HB
    go_wp2
    go_step3
    rename_i K hK
    refine hK _ _ (HB.out _ _ ?_)
    exact ⟨0, by omega, by omega, h0, rfl, _, _, _, _, _, _, _, _, _, _, _, _, _, _, _, _, _, _, _, _, _, _, _, _, _, _, _, _, rfl⟩
end Go.Proofs.Ytfbgmlophkbejaa
