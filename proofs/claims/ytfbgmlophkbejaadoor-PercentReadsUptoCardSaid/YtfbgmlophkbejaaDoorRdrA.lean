/- A form's reader: a piece handed in, walked. -/
import Derived.Test.YtfbgmlophkbejaaDoorFrmC
import Derived.Test.YtfbgmlophkbejaaDoorQPfax3
import Derived.Test.YtfbgmlophkbejaaDoorQPfax6
set_option linter.unusedVariables false
set_option linter.unusedSimpArgs false
namespace Go.Proofs.YtfbgmlophkbejaaDoor
open Go.RowKit Go.Proofs.YtfbgmlophkbejaaDoorW.PrintWords Go.Proofs.YtfbgmlophkbejaaDoorW.PrintLast Go.Proofs.YtfbgmlophkbejaaDoorQ.Pfa
namespace FC
set_option maxHeartbeats 8000000 in
set_option maxRecDepth 100000 in
theorem Feed_hit (s p : ByteArray) (i : Nat) (g : Nat) (w0 w : World) (hI : IsS98 w0 w g s) (hB : Below w0.heap.size w0 w) (hz : s.size + p.size ≤ 1073741824) (hi : Lib.lastIndexByte (s ++ p) 38 = (i : Int)) (hl : i < (s ++ p).size) (T : TabM w0) :
    Calls Tryd.prog 28 #[.pointer (some ⟨g, 0, none⟩), .string p] w fun e w' => ∃ v, e = .returned v ∧ Kd.R k46 46 w' w.heap.size (fun _ => True) v ((fieldsB ((s ++ p).extract 0 i)).map toF) ∧ IsS98 w0 w' g ((s ++ p).extract (i + 1) (s ++ p).size) ∧ Below w0.heap.size w0 w' ∧ KeepBut w w' g none := by
  have hza : (s ++ p).size = s.size + p.size := ByteArray.size_append
  have hlb := fun W => LastB_any (s ++ p) 38 W (by omega)
  rw [hi] at hlb
  have hex : ((s ++ p).extract 0 i).size ≤ 1073741824 := by rw [ByteArray.size_extract]; omega
  have hF := fun W hW => percent_Fields.calls 2147483648 ((s ++ p).extract 0 i) _ W (Fields_is _ hex _ (by omega)) hW
  have HF := Lib.hid hF
  have HL := Lib.hid hlb
  have HI := Lib.hid hI
  have HB := Lib.hid hB
  have hc0 := cellS98_0 hI.1
  have hf0 := blk_frozen hI.1 0
  have hgl := hI.lt
  clear hF hlb hI hB hi
  have hw1 : wrap64 ((i : Int) + 1) = ((i + 1 : Nat) : Int) := by unfold wrap64; omega
  have hw2 : IntKind.i64.wrap ((i : Int) + 1) = ((i + 1 : Nat) : Int) := (i64_w _).trans hw1
  have hd1 : decide ((0 : Int) ≤ ((i + 1 : Nat) : Int)) = true := decide_eq_true (by omega)
  have hd2 : decide (((i + 1 : Nat) : Int) ≤ ((s ++ p).size : Int)) = true := decide_eq_true (by omega)
  generalize hall : s ++ p = all at *
  have Hz := Lib.hid hza
  clear hza hex
  go_enter Tryd.func28, Tryd.ntmps28
  go_wp2_with (first
    | (go_at_call 60; go_loud ((with_reducible refine (HL.out _).mono ?_); rintro e w1 ⟨rfl, hb1⟩; have hI1 := HI.out.below hb1; have hc1 := cellS98_0 hI1.1; have hf1 := blk_frozen hI1.1 0; have hB1 := below_after HB.out hb1; have hI2 := hI1.set_0 (all.extract (i + 1) all.size); have hB2 : Below w0.heap.size w0 (w1.setCell ⟨g, 0, none⟩ (.string (all.extract (i + 1) all.size))) := below_set hB1 hI1.ge _; have hI2h := Lib.hid hI2; have hB2h := Lib.hid hB2; have hb1h := Lib.hid hb1; clear hI2 hB2 hB1 hI1 hb1))
    | (go_at_call 31; go_loud ((with_reducible refine (HF.out _ (TabM_below T hB2h.out)).mono ?_); rintro e w2 ⟨v2, rfl, hR2, hb2⟩)))
  go_ret
  refine ⟨_, rfl, Kd.R_lower hR2 (by have := hb1h.out.size; simpa using this), hI2h.out.below hb2, below_after hB2h.out hb2, ?_⟩
  exact KeepBut.trans ((KeepBut.of_below hb1h.out g none).set_ 0 _) (KeepBut.of_below hb2 g none) (.inl rfl)
set_option maxHeartbeats 8000000 in
set_option maxRecDepth 100000 in
theorem Feed_miss (s p : ByteArray) (g : Nat) (w0 w : World) (hI : IsS98 w0 w g s) (hB : Below w0.heap.size w0 w) (hz : s.size + p.size ≤ 1073741824) (hi : Lib.lastIndexByte (s ++ p) 38 = -1) :
    Calls Tryd.prog 28 #[.pointer (some ⟨g, 0, none⟩), .string p] w fun e w' => ∃ v, e = .returned v ∧ Kd.R k46 46 w' w.heap.size (fun _ => True) v [] ∧ IsS98 w0 w' g (s ++ p) ∧ Below w0.heap.size w0 w' ∧ KeepBut w w' g none := by
  have hza : (s ++ p).size = s.size + p.size := ByteArray.size_append
  have hlb := fun W => LastB_any (s ++ p) 38 W (by omega)
  rw [hi] at hlb
  have HL := Lib.hid hlb
  have HI := Lib.hid hI
  have HB := Lib.hid hB
  have hc0 := cellS98_0 hI.1
  have hf0 := blk_frozen hI.1 0
  have hgl := hI.lt
  clear hlb hI hB hi
  generalize hall : s ++ p = all at *
  have Hz := Lib.hid hza
  clear hza
  go_enter Tryd.func28, Tryd.ntmps28
  go_wp2_with (go_at_call 60; (with_reducible refine (HL.out _).mono ?_); rintro e w1 ⟨rfl, hb1⟩; have hI1 := HI.out.below hb1; have hc1 := cellS98_0 hI1.1; have hf1 := blk_frozen hI1.1 0; have hB1 := below_after HB.out hb1; have hI2 := hI1.set_0 all; have hB2 : Below w0.heap.size w0 (w1.setCell ⟨g, 0, none⟩ (.string all)) := below_set hB1 hI1.ge _; have hI2h := Lib.hid hI2; have hB2h := Lib.hid hB2; have hb1h := Lib.hid hb1; clear hI2 hB2 hB1 hI1 hb1)
  go_ret
  exact ⟨_, rfl, Kd.R_nil _ _ _ _ _, hI2h.out, hB2h.out, (KeepBut.of_below hb1h.out g none).set_ 0 _⟩
theorem Feed_nil (p : ByteArray) (w : World) : Calls Tryd.prog 28 #[.pointer none, .string p] w fun e w' => e = .returned (.slice none 0 0) ∧ Below w.heap.size w w' := by
  go_enter Tryd.func28, Tryd.ntmps28
  go_wp2
  go_ret
  exact ⟨rfl, Below.refl _ _⟩
theorem End_nil (w : World) : Calls Tryd.prog 29 #[.pointer none] w fun e w' => e = .returned (.slice none 0 0) ∧ Below w.heap.size w w' := by
  go_enter Tryd.func29, Tryd.ntmps29
  go_wp2
  go_ret
  exact ⟨rfl, Below.refl _ _⟩
theorem New_any (w : World) : Calls Tryd.prog 27 #[] w fun e w' => e = .returned (.pointer (some ⟨w.heap.size, 0, none⟩)) ∧ w' = w.alloc (.cells #[.string ByteArray.empty] 98) := by
  go_enter Tryd.func27, Tryd.ntmps27
  go_wp2
  go_ret
  exact ⟨rfl, rfl⟩
theorem End_any (s : ByteArray) (g : Nat) (w0 w : World) (hI : IsS98 w0 w g s) (hB : Below w0.heap.size w0 w) (hz : s.size ≤ 1073741824) (T : TabM w0) :
    Calls Tryd.prog 29 #[.pointer (some ⟨g, 0, none⟩)] w fun e w' => ∃ v : Value, e = .returned v ∧ Kd.R k46 46 w' w.heap.size (fun _ => True) v ((fieldsB s).map toF) ∧ IsS98 w0 w' g (⟨#[]⟩ : ByteArray) ∧ Below w0.heap.size w0 w' ∧ KeepBut w w' g none :=
  percent_Reader_End.calls 2147483648 g s _ _ w0 w hI hB (by unfold percent_Reader_End.f; rw [Fields_is s hz _ (by omega), Option.bind_some]) T
end FC
end Go.Proofs.YtfbgmlophkbejaaDoor
