/- ScalarUnits: what is left when the program is gone; the walk. -/
import Derived.Test.YtgippjhkimohlaaDoorPuB
import Derived.Test.YtgippjhkimohlaaDoorQScax6
set_option linter.unusedVariables false
set_option linter.unusedSimpArgs false
namespace Go.Proofs.YtgippjhkimohlaaDoor
open Go.RowKit Go.Proofs.YtgippjhkimohlaaDoorW.PrintWords Go.Proofs.YtgippjhkimohlaaDoorQ.Sca
theorem scalarUnits_pure (l : List Int) (hr : ∀ x ∈ l, 0 ≤ x ∧ x ≤ 65535) (hl : l.length ≤ 1048576) : ∃ k, posternlaw02_ScalarUnits.f k l = some true := by
  refine ⟨20000000, ?_⟩
  have hfl := frmU_len l.length l (Nat.le_refl _)
  have hsc := frmU_scal l.length l (Nat.le_refl _) hr
  have hul := untL_len (frmU l)
  have hu := Units_is (frmU l) _ (StopAt.full hsc) (by omega) 19999999 (by omega)
  have hf := FromUnits_is (untL (frmU l)) (untL_range _ hsc) (by omega) 19999999 (by omega)
  rw [frm_unt _ hsc] at hf
  have hs := same_is (frmU l) (by omega) 19999999 (by omega)
  unfold posternlaw02_ScalarUnits.f posternlaw02_awake.f
  simp only [Option.bind_some, if_true, List.nil_append, List.length_nil]
  rw [if_pos (by omega), FromUnits_is l hr (by omega) _ (by omega), RFromUnits_is l hr (by omega) _ (by omega)]
  simp only [Option.bind_some]
  rw [same_is (frmU l) (by omega) _ (by omega)]
  simp only [Option.bind_some, if_true]
  rw [unitsame_is l (by omega) _ (by omega)]
  simp only [Option.bind_some, Bool.not_true]
  show posternlaw02_ScalarUnits.j0 (19999999 + 1) _ _ = _
  simp only [posternlaw02_ScalarUnits.j0, Bool.false_eq_true, if_false]
  rw [hu]
  unfold untA
  simp only [if_true, Option.bind_some]
  rw [hf]
  simp only [Option.bind_some]
  rw [hs]
  rfl
theorem ints_to_C {k : IntKind} {w : World} {A : Option Addr} {n : Nat} {l : List Int} (h : ReadsInt w k A n l) : Kd.C (Kd.int k) w A n l := Kd.C_of_reads (enc := Value.int k) (d := (0 : Int)) (h1 := fun _ => rfl) h
theorem scalarUnits_any (l : List Int) (A : Option Addr) (c : Nat) (w : World) (R : ReadsInt w .u16 A l.length l) (hc : l.length ≤ c) (hw : ∀ x ∈ l, (Lit.int .u16 x).wf = true) (hl : l.length ≤ 1048576) (T : Tabs w) :
    Calls Tryd.prog 10 #[.slice A l.length c] w fun e w' => e = .returned (.bool true) ∧ Below w.heap.size w w' := by
  obtain ⟨k, hk⟩ := scalarUnits_pure l (fun x hx => by simpa [Lit.wf, IntKind.min, IntKind.max, IntKind.signed, IntKind.bits] using hw x hx) hl
  exact posternlaw02_ScalarUnits.calls k A c l true w (ints_to_C R) hc hk T
end Go.Proofs.YtgippjhkimohlaaDoor
