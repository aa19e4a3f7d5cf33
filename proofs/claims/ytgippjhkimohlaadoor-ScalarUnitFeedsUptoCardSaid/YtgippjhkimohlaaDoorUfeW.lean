/- ScalarUnitFeeds: the walk. -/
import Derived.Test.YtgippjhkimohlaaDoorUfeC
import Derived.Test.YtgippjhkimohlaaDoorQUfex0
set_option linter.unusedVariables false
set_option linter.unusedSimpArgs false
namespace Go.Proofs.YtgippjhkimohlaaDoor
open Go.RowKit Go.Proofs.YtgippjhkimohlaaDoorW.PrintWords Go.Proofs.YtgippjhkimohlaaDoorW.PrintLast Go.Proofs.YtgippjhkimohlaaDoorQ.Ufe
theorem wf16 {x : Int} (h : (Lit.int .u16 x).wf = true) : 0 ≤ x ∧ x ≤ 65535 := by simpa [Lit.wf, IntKind.min, IntKind.max, IntKind.signed, IntKind.bits] using h
theorem UHeld_nil (w : World) : Calls Tryd.prog 47 #[.pointer none] w fun e w' => e = .returned (.tuple #[.int .u16 0, .bool false]) ∧ Below w.heap.size w w' := by
  have hb := Below.refl w.heap.size w
  go_enter Tryd.func47, Tryd.ntmps47
  go_wp2
  go_ret2
  exact ⟨rfl, hb⟩
theorem UEnd_nil (w : World) : Calls Tryd.prog 49 #[.pointer none] w fun e w' => e = .returned (.slice none 0 0) ∧ Below w.heap.size w w' := by
  have hb := Below.refl w.heap.size w
  go_enter Tryd.func49, Tryd.ntmps49
  go_wp2
  go_ret
  exact ⟨rfl, hb⟩
theorem UFeed_nil (A : Option Addr) (n c : Nat) (w : World) : Calls Tryd.prog 48 #[.pointer none, .slice A n c] w fun e w' => e = .returned (.slice none 0 0) ∧ Below w.heap.size w w' := by
  have hb := Below.refl w.heap.size w
  go_enter Tryd.func48, Tryd.ntmps48
  go_wp2
  go_ret
  exact ⟨rfl, hb⟩
set_option maxRecDepth 100000 in
set_option maxHeartbeats 4000000 in
theorem scalarUnitFeeds_any (la lb : List (List Int)) (Aa Ab : Option Addr) (ca cb : Nat) (w : World) (ha : RowsInt w .u16 Aa la) (hb : RowsInt w .u16 Ab lb) (ra : ∀ x ∈ la.flatten, 0 ≤ x ∧ x ≤ 65535) (rb : ∀ x ∈ lb.flatten, 0 ≤ x ∧ x ≤ 65535) (sa : la.flatten.length + la.length ≤ 1048576) (sb : lb.flatten.length + lb.length ≤ 1048576) (T : Tabs w) :
    Calls Tryd.prog 12 #[.slice Aa la.length ca, .slice Ab lb.length cb] w fun e w' => e = .returned (.bool true) ∧ Below w.heap.size w w' := by
  have hN := Lib.hid (scalar_NewUnitDecoder.calls 0 w w (Below.refl _ _) rfl)
  have hA := Lib.hid (fun W (hb : Below w.heap.size w W) => posternlaw02_awake.calls true W rfl (Utf8Tabs_below T hb))
  have hFa := Lib.hid (fun g W hI hw => fedU_any la Aa ca g w W ha ra sa hI hw)
  have hFb := Lib.hid (fun g W hI hw => fedU_any lb Ab cb g w W hb rb sb hI hw)
  clear ha hb ra rb
  go_enter Tryd.func12, Tryd.ntmps12
  go_wp2_with (first
    | (go_at_call 45; go_loud ((with_reducible refine hN.out.mono ?_); rintro e w1 ⟨g, rfl, hI1, hL1, hK1⟩))
    | (go_at_call 17; go_loud ((with_reducible refine (hA.out w1 hL1).mono ?_); rintro e w2 ⟨rfl, hb2⟩; have hI2 := hI1.below hb2; have hL2 := below_after hL1 hb2))
    | (go_at_call 46; first
      | ((with_reducible refine (hFa.out g w2 hI2 hL2).mono ?_); rintro e w3 ⟨rfl, hI3, hL3⟩)
      | ((with_reducible refine (hFb.out g w3 hI3 hL3).mono ?_); rintro e w4 ⟨rfl, hI4, hL4⟩))
    | (go_at_call 47; go_loud ((with_reducible refine (UHeld_nil _).mono ?_); rintro e w5 ⟨rfl, hb5⟩; have hL5 := below_after hL4 hb5))
    | (go_at_call 48; go_loud ((with_reducible refine (UFeed_nil _ _ _ _).mono ?_); rintro e w6 ⟨rfl, hb6⟩; have hL6 := below_after (below_alloc hL5 _) hb6))
    | (go_at_call 49; go_loud ((with_reducible refine (UEnd_nil _).mono ?_); rintro e w7 ⟨rfl, hb7⟩; have hL7 := below_after hL6 hb7)))
  go_ret
  exact ⟨rfl, hL7⟩
end Go.Proofs.YtgippjhkimohlaaDoor
