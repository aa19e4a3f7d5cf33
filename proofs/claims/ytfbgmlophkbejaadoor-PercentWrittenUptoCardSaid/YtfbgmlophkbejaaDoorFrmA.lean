/- Forms: what Go's library of texts does, as the printed functions ask for it. -/
import Derived.Test.YtfbgmlophkbejaaDoorMaxA
import Derived.Test.YtfbgmlophkbejaaDoorShelf
import Derived.Test.YtfbgmlophkbejaaDoorScX
set_option linter.unusedVariables false
set_option linter.unusedSimpArgs false
namespace Go.Proofs.YtfbgmlophkbejaaDoor
open Go.RowKit Go.Proofs.YtfbgmlophkbejaaDoorW.PrintWords Go.Proofs.YtfbgmlophkbejaaDoorW.PrintLast
theorem Split_R (s sep : ByteArray) (w : World) (hs : s.size ≤ 1073741824) (h1 : 1 ≤ sep.size) (M : MaxL w) :
    Calls Tryd.prog 62 #[.string s, .string sep] w fun e w' => ∃ v : Value, e = .returned v ∧ Kd.R Kd.string 9 w' w.heap.size (fun _ => True) v (Lib.splitB sep 0 (Lib.countB s sep) s) ∧ Below w.heap.size w w' := by
  obtain ⟨m, hm⟩ := M
  refine (Tryd.strings_Split s sep m w (by omega) hm h1).mono ?_
  rintro e w' ⟨rfl, rfl⟩
  have hl := Lib.splitB_all sep h1 0 _ s rfl
  have hle := Lib.countB_le sep h1 s.size s (Nat.le_refl _)
  refine ⟨_, rfl, ?_, below_one _ _⟩
  refine Kd.R_of_own (enc := Value.string) (h1 := fun _ => rfl) ?_ (fun _ _ => trivial)
  have ho := World.ownsRow_lit (base := w.heap.size) (e := 9) (size := 1) w ((Lib.splitB sep 0 (Lib.countB s sep) s).map Value.string).toArray (Lib.countB s sep + 1) (Nat.le_refl _) (by unfold maxLen; omega) (by simp [hl])
  rw [hl]
  simpa [encs] using ho
theorem Cut_any (s sep : ByteArray) (w : World) (hs : s.size ≤ 1073741824) (M : MaxL w) :
    Calls Tryd.prog 88 #[.string s, .string sep] w fun e w' => e = .returned (.tuple #[.string ⟨(Lib.cut s.data.toList sep.data.toList).1.toArray⟩, .string ⟨(Lib.cut s.data.toList sep.data.toList).2.1.toArray⟩, .bool (Lib.cut s.data.toList sep.data.toList).2.2]) ∧ Below w.heap.size w w' := by
  obtain ⟨m, hm⟩ := M
  refine (Tryd.strings_Cut s sep m w (by omega) hm).mono ?_
  rintro e w' ⟨rfl, n, rfl⟩
  exact ⟨rfl, below_drewN (Below.refl _ _) n⟩
theorem LastB_any (s : ByteArray) (c : Int) (w : World) (hs : s.size ≤ 1073741824) :
    Calls Tryd.prog 60 #[.string s, .int .u8 c] w fun e w' => e = .returned (.int .i64 (Lib.lastIndexByte s c)) ∧ Below w.heap.size w w' := by
  refine (Tryd.strings_LastIndexByte s c (by omega) w).mono ?_
  rintro e w' ⟨rfl, rfl⟩
  exact ⟨rfl, Below.refl _ _⟩
def joinS (l : List ByteArray) (sep : ByteArray) : ByteArray := ⟨(Lib.join (l.map (·.data.toList)) sep.data.toList).toArray⟩
theorem Join_any (l : List ByteArray) (sep : ByteArray) (A : Option Addr) (c : Nat) (w : World) (hC : Kd.C Kd.string w A l.length l) (hc : l.length ≤ c) (hn : l.length ≤ 1073741824) (hj : (Lib.join (l.map (·.data.toList)) sep.data.toList).length ≤ 1073741824) :
    Calls Tryd.prog 64 #[.slice A l.length c, .string sep] w fun e w' => e = .returned (.string (joinS l sep)) ∧ Below w.heap.size w w' := by
  by_cases h0 : l.length = 0
  · obtain rfl : l = [] := List.eq_nil_of_length_eq_zero h0
    refine (Tryd.strings_Join_none A c sep w).mono ?_
    rintro e w' ⟨rfl, rfl⟩
    exact ⟨rfl, Below.refl _ _⟩
  · have hr := Kd.reads_of_C (enc := Value.string) (d := ByteArray.empty) (h1 := fun _ => rfl) hC
    obtain ⟨ad, rfl, hcell⟩ := hr.2.2 (by omega)
    have hc0 := hcell 0 (by omega)
    have hspot : ad.spot = none := by
      have e : ad.add 0 = ad := by unfold Addr.add; rw [if_pos rfl]
      rw [e] at hc0
      unfold World.cell? at hc0
      cases hsp : ad.spot with
      | none => rfl
      | some x =>
        rw [hsp] at hc0
        split at hc0
        · simp at hc0
        · cases hc0
    obtain ⟨bk, o, sp⟩ := ad
    simp only at hspot
    subst hspot
    refine (Tryd.strings_Join bk o c l sep w (fun j x hj => ?_) (World.block_lt_of_cell? w _ hc0) (by omega) hc (by omega)).mono ?_
    · have hjl := (List.getElem?_eq_some_iff.1 hj).1
      have h := hcell j hjl
      rw [List.getD_eq_getElem?_getD, hj] at h
      have e : (⟨bk, o, none⟩ : Addr).add j = ⟨bk, o + j, none⟩ := by unfold Addr.add; split <;> simp_all
      rw [e] at h
      exact h
    · rintro e w' ⟨rfl, hb⟩
      exact ⟨rfl, hb⟩
end Go.Proofs.YtfbgmlophkbejaaDoor
