/- Opaque: code points that are forbidden: by the document, by the program. -/
import Derived.Test.YtebpghpaglpdlaaDoorOpZ
import Derived.Test.YtebpghpaglpdlaaDoorOpO
import Derived.Test.YtebpghpaglpdlaaDoorScX
import Derived.Laws.RangeString
set_option linter.unusedVariables false
set_option linter.unusedSimpArgs false
namespace Go.Proofs.YtebpghpaglpdlaaDoor
open Go.RowKit Go.Proofs.YtebpghpaglpdlaaDoorW.PrintWords Go.Proofs.YtebpghpaglpdlaaDoorW.PrintLast
/-- the forbidden host code points -/
def forbL : List Int := [0, 9, 10, 13, 32, 35, 47, 58, 60, 62, 63, 64, 91, 92, 93, 94, 124]
def forbS : ByteArray := ⟨#[0, 9, 10, 13, 32, 35, 47, 58, 60, 62, 63, 64, 91, 92, 93, 94, 124]⟩
def forb (p : Int) : Bool := decide (p ∈ forbL)
theorem forbS_at (k : Nat) (h : k < 17) : ∃ h1 : k < forbS.size, (forbS[k]'h1).toNat < 128 ∧ (((forbS[k]'h1).toNat : Nat) : Int) = rd forbL k := by
  have key : ∀ k : Fin 17, (forbS[k.val]'(by have := k.isLt; show k.val < 17; omega)).toNat < 128 ∧ (((forbS[k.val]'(by have := k.isLt; show k.val < 17; omega)).toNat : Nat) : Int) = rd forbL (k.val : Int) := by decide +kernel
  exact ⟨h, (key ⟨k, h⟩).1, (key ⟨k, h⟩).2⟩
theorem forb_no {p : Int} (h : ∀ j : Nat, j < 17 → rd forbL j ≠ p) : forb p = false := by
  unfold forb
  refine decide_eq_false fun hm => ?_
  obtain ⟨i, hi, rfl⟩ := List.mem_iff_getElem.1 hm
  refine h i hi ?_
  simp [rd, List.getD_eq_getElem?_getD, List.getElem?_eq_getElem hi]
theorem forb_yes (k : Nat) (h : k < 17) : forb (rd forbL k) = true := by
  unfold forb
  refine decide_eq_true ?_
  have hi : k < forbL.length := h
  have e : rd forbL k = forbL[k] := by simp [rd, List.getD_eq_getElem?_getD, List.getElem?_eq_getElem hi]
  rw [e]
  exact List.getElem_mem _
theorem below_iter (w : World) (s : ByteArray) (k : Nat) : Below w.heap.size w (w.iter s k) := below_one w _
def iterPos (w : World) (b : Nat) : Nat := match w.heap[b]? with
  | some (.stringIter _ p) => p
  | _ => 0
theorem iterPos_is (w : World) (s : ByteArray) (k : Nat) : iterPos (w.iter s k) w.heap.size = k := by unfold iterPos; rw [World.iter_heap]
set_option maxRecDepth 100000 in
theorem RHost_any (p : Int) (w : World) : Calls Tryd.prog 15 #[.int .i32 p] w fun e w' => e = .returned (.bool (forb p)) ∧ Below w.heap.size w w' := by
  obtain ⟨R, hR⟩ : ∃ R, forb p = R := ⟨_, rfl⟩
  have HR := Lib.hid hR
  rw [hR]
  clear hR
  go_enter Tryd.func15, Tryd.ntmps15
  go_wp2
  go_loopw [4] (fun _ wr => ∃ k : Nat, wr = w.iter forbS k ∧ k ≤ 17 ∧ ∀ j : Nat, j < k → rd forbL j ≠ p) (fun _ wr => 17 - iterPos wr w.heap.size)
  case atStart => exact ⟨0, rfl, by omega, fun j hj => by omega⟩
  case round =>
    obtain ⟨k, rfl, hk, hno⟩ := hrel
    have hpos := iterPos_is w forbS k
    have hpos1 := iterPos_is w forbS (k + 1)
    have Hpos := Lib.hid hpos
    have Hpos1 := Lib.hid hpos1
    clear hpos hpos1
    by_cases hlt : k < 17
    · obtain ⟨h1, ha, hb⟩ := forbS_at k hlt
      have hnx := fun ty => run_next_ascii (P := Tryd.prog) w forbS k ty h1 ha
      rw [hb] at hnx
      have hno1 : rd forbL k ≠ p → ∀ j : Nat, j < k + 1 → rd forbL j ≠ p := fun hne j hj => by
        rcases Nat.lt_or_ge j k with g | g
        · exact hno j g
        · obtain rfl : j = k := by omega
          exact hne
      have hyes := forb_yes k hlt
      generalize rd forbL k = q at *
      have Hno := Lib.hid hno1
      have Hnx := Lib.hid hnx
      clear hnx hno hno1 hb ha
      by_cases he : p = q
      · subst he
        have hR2 : R = true := HR.out.symm.trans hyes
        subst hR2
        clear HR
        go_wp2
        rw [Hnx.out]
        simp only [Result.andThen]
        rw [Oper.upon_value]
        go_wp2
        go_ret
        exact ⟨rfl, below_iter w forbS (k + 1)⟩
      · go_wp2
        rw [Hnx.out]
        simp only [Result.andThen]
        rw [Oper.upon_value]
        go_wp2
        exact ⟨⟨k + 1, rfl, by omega, Hno.out (fun e => he e.symm)⟩, by rw [Hpos.out, Hpos1.out]; omega⟩
    · obtain rfl : k = 17 := by omega
      have hnx := fun ty => run_next_end (P := Tryd.prog) w forbS 17 ty (by decide)
      have Hnx := Lib.hid hnx
      have hR2 : R = false := HR.out.symm.trans (forb_no hno)
      subst hR2
      clear hnx HR hno
      go_wp2
      rw [Hnx.out]
      simp only [Result.andThen]
      rw [Oper.upon_value]
      go_wp2
      go_ret
      exact ⟨rfl, below_iter w forbS 17⟩
/-- is a code point a byte of a named set? -/
def inT (p n : Int) : Bool := if p < 0 ∨ 127 < p then false else inSet (nW n) p
theorem nW_four (n : Int) : nW n = [rd (nW n) 0, rd (nW n) 1, rd (nW n) 2, rd (nW n) 3] := by
  unfold nW
  repeat' split
  all_goals rfl
set_option maxRecDepth 100000 in
theorem in_any (p n : Int) (w : World) : Calls Tryd.prog 37 #[.int .i32 p, .int .i64 n] w fun e w' => e = .returned (.bool (inT p n)) ∧ Below w.heap.size w w' := by
  by_cases h0 : p < 0
  · have e : inT p n = false := by unfold inT; rw [if_pos (Or.inl h0)]
    rw [e]
    clear e
    go_enter Tryd.func37, Tryd.ntmps37
    go_wp2
    go_ret
    exact ⟨rfl, by first | exact Below.refl _ _ | exact below_drewN (Below.refl _ _) _⟩
  · by_cases h1 : 127 < p
    · have e : inT p n = false := by unfold inT; rw [if_pos (Or.inr h1)]
      rw [e]
      clear e
      go_enter Tryd.func37, Tryd.ntmps37
      go_wp2
      go_ret
      exact ⟨rfl, by first | exact Below.refl _ _ | exact below_drewN (Below.refl _ _) _⟩
    · have e : inT p n = inSet (nW n) p := by unfold inT; rw [if_neg (by omega)]
      rw [e]
      clear e
      have hn := named_any n w
      have hw := nW_four n
      generalize rd (nW n) 0 = x0 at *
      generalize rd (nW n) 1 = x1 at *
      generalize rd (nW n) 2 = x2 at *
      generalize rd (nW n) 3 = x3 at *
      rw [hw]
      clear hw
      have Hn := Lib.hid hn
      have Hh := Lib.hid (fun W => has_any x0 x1 x2 x3 p W (by omega) (by omega))
      generalize nE n = ne at *
      clear hn
      go_enter Tryd.func37, Tryd.ntmps37
      go_wp2_with (first
        | (go_at_call 34; (with_reducible refine (Hn.out).mono ?_); rintro e w1 ⟨rfl, hb1⟩; have hbl := (Blk.new w1 52 (arr4 x0 x1 x2 x3)); have hL := below_alloc hb1 (.cells (arr4 x0 x1 x2 x3) 52); (obtain ⟨g0, g1, g2, g3⟩ := Blk.cells4 hbl))
        | (go_at_call 56; (with_reducible refine (Hh.out _).mono ?_); rintro e w2 ⟨rfl, hb2⟩))
      go_ret
      exact ⟨rfl, below_after hL hb2⟩
end Go.Proofs.YtebpghpaglpdlaaDoor
