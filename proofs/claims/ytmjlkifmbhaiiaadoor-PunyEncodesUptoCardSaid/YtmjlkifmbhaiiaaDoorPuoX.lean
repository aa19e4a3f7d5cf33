/- PunyDecodes, PunyEncodes: what is left when the program is gone; the walks. -/
import Derived.Test.YtmjlkifmbhaiiaaDoorPuo
import Derived.Test.YtmjlkifmbhaiiaaDoorQPox9
import Derived.Test.YtmjlkifmbhaiiaaDoorQPox3
import Derived.Test.YtmjlkifmbhaiiaaDoorQPox7
import Derived.Test.YtmjlkifmbhaiiaaDoorQPox10
import Derived.Test.YtmjlkifmbhaiiaaDoorQPox0
set_option linter.unusedVariables false
set_option linter.unusedSimpArgs false
namespace Go.Proofs.YtmjlkifmbhaiiaaDoor.V
open Go.RowKit Go.Proofs.YtmjlkifmbhaiiaaDoorW.PrintWords Go.Proofs.YtmjlkifmbhaiiaaDoorW.PrintLast Go.Proofs.YtmjlkifmbhaiiaaDoorQ.Po
theorem C_of_ints {k : IntKind} {w : World} {A : Option Addr} {n : Nat} {l : List Int} (h : ReadsInt w k A n l) : Kd.C (Kd.int k) w A n l := Kd.C_of_reads (enc := Value.int k) (d := (0 : Int)) (h1 := fun _ => rfl) h
theorem same_l0 (l : List Int) (hl : l.length ≤ 16777216) : ∀ (m : Nat) (i : Int) (k : Nat), 0 ≤ i → (l.length : Int) = i + m → m + 1 ≤ k → posternlaw14_same.l0 k l l l.length i = some true := by
  intro m
  induction m with
  | zero =>
    intro i k h0 h1 hk
    obtain ⟨k, rfl⟩ : ∃ m, k = m + 1 := ⟨k - 1, by omega⟩
    rw [posternlaw14_same.l0, if_neg (by omega)]
  | succ m ih =>
    intro i k h0 h1 hk
    obtain ⟨k, rfl⟩ : ∃ m, k = m + 1 := ⟨k - 1, by omega⟩
    rw [posternlaw14_same.l0, if_pos (by omega), if_pos h0, if_pos (by omega), if_pos (by omega), if_pos rfl, w64 (i + 1) (by omega) (by omega)]
    exact ih (i + 1) k (by omega) (by omega) (by omega)
theorem same_is (k : Nat) (l : List Int) (hl : l.length ≤ 16777216) (hk : 16777217 ≤ k) : posternlaw14_same.f k l l = some true := by
  unfold posternlaw14_same.f
  rw [if_pos rfl]
  exact same_l0 l hl l.length 0 k (by omega) (by omega) (by omega)
theorem encodes_f (K : Nat) (hK : 600000000000000 ≤ K) (haw : posternlaw14_awake.f K = some true) (l : List Int) (hi : i32B l = true) (hl : l.length ≤ 1048576) : posternlaw14_PunyEncodes.f K l = some true := by
  unfold posternlaw14_PunyEncodes.f
  rw [haw]
  simp only [Option.bind_some, if_true, List.length_nil, List.nil_append]
  rw [if_pos (by omega), PEnc_is l hi hl K (by omega), REnc_is l hl K hK]
  simp only [Option.bind_some, if_true]
  rw [same_is K l (by omega) (by omega)]
  rfl
theorem punyEncodes_any (l : List Int) (A : Option Addr) (c : Nat) (w : World) (R : ReadsInt w .i32 A l.length l) (hc : l.length ≤ c) (hl : l.length ≤ 1048576) (hi : i32s l) (T : Tabs w) :
    Calls Tryd.prog 3 #[.slice A l.length c] w fun e w' => e = .returned (.bool true) ∧ Below w.heap.size w w' :=
  posternlaw14_PunyEncodes.calls 1125899906842624 A c l true w (C_of_ints R) hc (encodes_f _ (by omega) awake2 l (List.all_eq_true.2 fun x hx => decide_eq_true (hi x hx)) hl) T
end Go.Proofs.YtmjlkifmbhaiiaaDoor.V
