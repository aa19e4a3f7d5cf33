/- PercentForms: the walk. -/
import Derived.Test.YtfbgmlophkbejaaDoorPctN
set_option linter.unusedVariables false
set_option linter.unusedSimpArgs false
namespace Go.Proofs.YtfbgmlophkbejaaDoor
open Go.RowKit Go.Proofs.YtfbgmlophkbejaaDoorW.PrintWords Go.Proofs.YtfbgmlophkbejaaDoorW.PrintLast
set_option maxRecDepth 100000 in
set_option maxHeartbeats 4000000 in
theorem percentForms_any (s : ByteArray) (w : World) (hs : s.size ≤ 1048576) (M : MaxL w) : Calls Tryd.prog 3 #[.string s] w fun e w' => e = .returned (.bool true) ∧ Below w.heap.size w w' := by
  have hF := fun W (h : Below w.heap.size w W) => form_any s W (by omega) (MaxL_below M h)
  have hR := fun W => rform_any s W (by omega)
  have hD := fun W (h : Below w.heap.size w W) => fdec_any s W (by omega) (MaxL_below M h)
  have hE := fun W => rfdec_any s W (by omega)
  generalize formS s = X at *
  generalize fdecS s = Y at *
  have HF := Lib.hid hF
  have HR := Lib.hid hR
  have HD := Lib.hid hD
  have HE := Lib.hid hE
  clear hF hR hD hE
  go_enter Tryd.func3, Tryd.ntmps3
  go_wp2_with (first
    | (go_at_call 9; (with_reducible refine (Z.awake_any _).mono ?_); rintro e w1 ⟨rfl, hb1⟩)
    | (go_at_call 10; (with_reducible refine (HF.out _ hb1).mono ?_); rintro e w2 ⟨rfl, hb2⟩; have hc2 := below_after hb1 hb2)
    | (go_at_call 11; (with_reducible refine (HR.out _).mono ?_); rintro e w3 ⟨rfl, hb3⟩; have hc3 := below_after hc2 hb3)
    | (go_at_call 12; (with_reducible refine (HD.out _ hc3).mono ?_); rintro e w4 ⟨rfl, hb4⟩; have hc4 := below_after hc3 hb4)
    | (go_at_call 13; (with_reducible refine (HE.out _).mono ?_); rintro e w5 ⟨rfl, hb5⟩; have hc5 := below_after hc4 hb5))
  go_ret
  exact ⟨by simp, hc5⟩
end Go.Proofs.YtfbgmlophkbejaaDoor
