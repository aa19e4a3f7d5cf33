/- My walks over package octet: sets that are asked: Has, Find, All; and the document's: Unwords, Find. -/
import Derived.Test.YtjiapggmiddpdaaBase
set_option linter.unusedVariables false
set_option linter.unusedSimpArgs false
namespace Go.Proofs.Ytjiapggmiddpdaa
open Go.RowKit Go.Proofs.YtjiapggmiddpdaaW.PrintWords Go.Proofs.YtjiapggmiddpdaaW.PrintLast
/-- is byte b in the set of four words? -/
def inSet (l : List Int) (b : Int) : Bool := bits BinOp.and IntKind.u64 (rd l (b / 64) / 2 ^ (b % 64).toNat) 1 == 1

set_option maxHeartbeats 400000 in
theorem has_any (x0 x1 x2 x3 b : Int) (w : World) (hb0 : 0 ≤ b) (hb1 : b ≤ 255) :
    Calls Try.prog 27 #[set4 x0 x1 x2 x3, .int .u8 b] w fun e w' => e = .returned (.bool (inSet [x0, x1, x2, x3] b)) ∧ Below w.heap.size w w' := by
  have hc := four_at x0 x1 x2 x3 (b / 64) (by omega) (by omega)
  go_enter Try.func27, Try.ntmps27
  go_wp2
  go_ret
  exact ⟨rfl, below_one _ _⟩

/-- r is the first place from 'from' on, below n, where p holds; -1: none -/
def FirstAt (p : Int → Bool) (from_ n r : Int) : Prop :=
  (r = -1 ∧ ∀ j, from_ ≤ j → 0 ≤ j → j < n → p j = false) ∨ (from_ ≤ r ∧ 0 ≤ r ∧ r < n ∧ p r = true ∧ ∀ j, from_ ≤ j → 0 ≤ j → j < r → p j = false)
theorem FirstAt.hit {p : Int → Bool} {fr n k : Int} (hkf : fr ≤ k) (hk0 : 0 ≤ k) (hlt : k < n) (hp : p k = true) (hall : ∀ j, fr ≤ j → 0 ≤ j → j < k → p j = false) : FirstAt p fr n k := .inr ⟨hkf, hk0, hlt, hp, hall⟩
theorem FirstAt.none {p : Int → Bool} {fr n k : Int} (hk : n ≤ k) (hall : ∀ j, fr ≤ j → 0 ≤ j → j < k → p j = false) : FirstAt p fr n (-1) := .inl ⟨rfl, fun j h1 h2 h3 => hall j h1 h2 (by omega)⟩
theorem FirstAt.more {p : Int → Bool} {fr k : Int} (hp : fr ≤ k → p k = false) (hall : ∀ j, fr ≤ j → 0 ≤ j → j < k → p j = false) : ∀ j, fr ≤ j → 0 ≤ j → j < k + 1 → p j = false := fun j h1 h2 h3 => by
  by_cases h : j = k
  · subst h; exact hp h1
  · exact hall j h1 h2 (by omega)
theorem FirstAt.unique {p q : Int → Bool} {fr n r r' : Int} (hpq : ∀ j, 0 ≤ j → j < n → p j = q j) (h : FirstAt p fr n r) (h' : FirstAt q fr n r') : r = r' := by
  rcases h with ⟨rfl, h⟩ | ⟨h1, h2, h3, h4, h5⟩ <;> rcases h' with ⟨rfl, h'⟩ | ⟨h1', h2', h3', h4', h5'⟩
  · rfl
  · have := h r' h1' h2' h3'; rw [hpq _ h2' h3', h4'] at this; cases this
  · have := h' r h1 h2 h3; rw [← hpq _ h2 h3, h4] at this; cases this
  · rcases Int.lt_trichotomy r r' with hh | hh | hh
    · have := h5' r h1 h2 hh; rw [← hpq _ h2 h3, h4] at this; cases this
    · exact hh
    · have := h5 r' h1' h2' hh; rw [hpq _ h2' h3', h4'] at this; cases this

set_option maxHeartbeats 1000000 in
theorem find_any (s : ByteArray) (x0 x1 x2 x3 fr : Int) (w : World) (hs : s.size ≤ 9223372036854775807) (hf : fr ≤ 9223372036854775807) :
    Calls Try.prog 12 #[.string s, set4 x0 x1 x2 x3, .int .i64 fr] w (IntSuch .i64 (FirstAt (fun i => inSet [x0, x1, x2, x3] (bt s i)) fr s.size) w) := by
  go_enter Try.func12, Try.ntmps12
  go_wp2
  all_goals
    go_loopw [7] (fun v wr => ∃ k : Int, v = .int .i64 k ∧ 0 ≤ k ∧ fr ≤ k ∧ (k ≤ s.size ∨ k = fr) ∧ Hid (∀ j, fr ≤ j → 0 ≤ j → j < k → inSet [x0, x1, x2, x3] (bt s j) = false) ∧ Below w.heap.size w wr ∧ Blk wr w.heap.size 24 (arr4 x0 x1 x2 x3)) (fun v _ => s.size - (intOf v).toNat)
    case atStart =>
      refine ⟨_, rfl, by omega, by omega, by omega, fun j h1 h2 h3 => by omega, below_one _ _, Blk.new _ _ _⟩
    case round =>
      obtain ⟨k, rfl, hk0, hkf, hks, hall, hbel, hblk⟩ := hrel
      by_cases hlt : k < s.size
      · obtain ⟨c0, c1, c2, c3⟩ := hblk.cells4
        have hbt := bt_at s k
        have hbr := bt_range s k
        go_upto_region 4 with (fail)
        go_still_tail 4, (by kernel_rfl)
        clear hbt
        change wpList _ _ _ _ _ wr.drew
        have hbel2 : Below w.heap.size w wr.drew := hbel.drew
        have hblk2 : Blk wr.drew w.heap.size 24 (arr4 x0 x1 x2 x3) := hblk.drew
        clear hbel hblk c0 c1 c2 c3
        generalize wr.drew = w2 at *
        go_wp2_with (go_at_call 27; refine (has_any _ _ _ _ _ _ (by omega) (by omega)).mono ?_; rintro e w3 ⟨rfl, hb3⟩)
        · have hp : inSet [x0, x1, x2, x3] (bt s k) = true := by assumption
          go_ret
          exact ⟨k, FirstAt.hit hkf hk0 hlt hp hall.out, rfl, below_after hbel2 hb3⟩
        · have hp : inSet [x0, x1, x2, x3] (bt s k) = false := by assumption
          exact ⟨⟨k + 1, rfl, by omega, by omega, by omega, FirstAt.more (fun _ => hp) hall.out, below_after hbel2 hb3, hblk2.after hb3⟩, by simp [intOf]; omega⟩
      · go_wp2
        go_ret
        exact ⟨-1, FirstAt.none (by omega) hall.out, rfl, hbel⟩

def AllIn (p : Int → Bool) (n : Int) (r : Bool) : Prop := r = true ↔ ∀ j, 0 ≤ j → j < n → p j = true
theorem AllIn.no {p : Int → Bool} {n k : Int} (h0 : 0 ≤ k) (h1 : k < n) (hp : p k = false) : AllIn p n false := ⟨fun h => (Bool.false_ne_true h).elim, fun h => by rw [h k h0 h1] at hp; cases hp⟩
theorem AllIn.yes {p : Int → Bool} {n k : Int} (h1 : n ≤ k) (hall : ∀ j, 0 ≤ j → j < k → p j = true) : AllIn p n true := ⟨fun _ j h2 h3 => hall j h2 (by omega), fun _ => rfl⟩
theorem AllIn.unique {p q : Int → Bool} {n : Int} {r r' : Bool} (hpq : ∀ j, 0 ≤ j → j < n → p j = q j) (h : AllIn p n r) (h' : AllIn q n r') : r = r' := by
  have : r = true ↔ r' = true := h.trans (Iff.trans ⟨fun g j h1 h2 => (hpq j h1 h2).symm.trans (g j h1 h2), fun g j h1 h2 => (hpq j h1 h2).trans (g j h1 h2)⟩ h'.symm)
  cases r <;> cases r' <;> simp_all
set_option maxHeartbeats 1000000 in
theorem all_any (s : ByteArray) (x0 x1 x2 x3 : Int) (w : World) (hs : s.size ≤ 9223372036854775807) :
    Calls Try.prog 14 #[.string s, set4 x0 x1 x2 x3] w (BoolSuch (AllIn (fun i => inSet [x0, x1, x2, x3] (bt s i)) s.size) w) := by
  go_enter Try.func14, Try.ntmps14
  go_wp2
  go_loopw [8] (fun v wr => ∃ k : Int, v = .int .i64 k ∧ 0 ≤ k ∧ k ≤ s.size ∧ Hid (∀ j, 0 ≤ j → j < k → inSet [x0, x1, x2, x3] (bt s j) = true) ∧ Below w.heap.size w wr ∧ Blk wr w.heap.size 24 (arr4 x0 x1 x2 x3)) (fun v _ => s.size - (intOf v).toNat)
  case atStart =>
    refine ⟨_, rfl, by omega, by omega, fun j h1 h2 => by omega, below_one _ _, Blk.new _ _ _⟩
  case round =>
    obtain ⟨k, rfl, hk0, hks, hall, hbel, hblk⟩ := hrel
    by_cases hlt : k < s.size
    · obtain ⟨c0, c1, c2, c3⟩ := hblk.cells4
      have hbt := bt_at s k
      have hbr := bt_range s k
      go_upto_region 4 with (fail)
      go_still_tail 4, (by kernel_rfl)
      clear hbt
      change wpList _ _ _ _ _ wr.drew
      have hbel2 : Below w.heap.size w wr.drew := hbel.drew
      have hblk2 : Blk wr.drew w.heap.size 24 (arr4 x0 x1 x2 x3) := hblk.drew
      clear hbel hblk c0 c1 c2 c3
      generalize wr.drew = w2 at *
      go_wp2_with (go_at_call 27; refine (has_any _ _ _ _ _ _ (by omega) (by omega)).mono ?_; rintro e w3 ⟨rfl, hb3⟩)
      · have hp : inSet [x0, x1, x2, x3] (bt s k) = false := by simpa using (by assumption : (!inSet [x0, x1, x2, x3] (bt s k)) = true)
        go_ret
        exact ⟨false, AllIn.no hk0 hlt hp, rfl, below_after hbel2 hb3⟩
      · have hp : inSet [x0, x1, x2, x3] (bt s k) = true := by simpa using (by assumption : (!inSet [x0, x1, x2, x3] (bt s k)) = false)
        refine ⟨⟨k + 1, rfl, by omega, by omega, fun j h1 h2 => ?_, below_after hbel2 hb3, hblk2.after hb3⟩, by simp [intOf]; omega⟩
        by_cases h : j = k
        · subst h; exact hp
        · exact hall.out j h1 (by omega)
    · go_wp2
      go_ret
      exact ⟨true, AllIn.yes (by omega) hall.out, rfl, hbel⟩
end Go.Proofs.Ytjiapggmiddpdaa
