/- Desk: what the words of a line say (plain); the program's plain. -/
import Derived.Test.YtjfdbdjcceecjaaDskC
set_option linter.unusedVariables false
set_option linter.unusedSimpArgs false
namespace Go.Proofs.Ytjfdbdjcceecjaa
open Go.RowKit Go.Proofs.YtjfdbdjcceecjaaW.PrintWords Go.Proofs.YtjfdbdjcceecjaaW.PrintLast
/-- may a byte stand in a plain word? -/
def okW (c : Int) : Bool := decide (33 ≤ c) && decide (c ≤ 126) && (c != 34)
/-- n is how many bytes of a plain word stand at the front -/
def IsPlain (s : ByteArray) (n : Int) : Prop := 0 ≤ n ∧ n ≤ s.size ∧ (∀ j, 0 ≤ j → j < n → okW (bt s j) = true) ∧ (n < s.size → okW (bt s n) = false)
theorem IsPlain.unique {s : ByteArray} {n m : Int} (h : IsPlain s n) (k : IsPlain s m) : n = m := by
  obtain ⟨h0, h1, h2, h3⟩ := h
  obtain ⟨k0, k1, k2, k3⟩ := k
  rcases Int.lt_trichotomy n m with g | g | g
  · have := h3 (by omega); rw [k2 n h0 g] at this; cases this
  · exact g
  · have := k3 (by omega); rw [h2 m k0 g] at this; cases this
def plenU (s : ByteArray) : Nat → Nat → Nat
  | 0, i => i
  | n + 1, i => if okW (bt s i) = true then plenU s n (i + 1) else i
theorem plenU_is (s : ByteArray) (n : Nat) : ∀ i : Nat, i + n = s.size → (∀ j : Int, 0 ≤ j → j < i → okW (bt s j) = true) → IsPlain s (plenU s n i : Nat) := by
  induction n with
  | zero => intro i h hall; exact ⟨by omega, by unfold plenU; omega, fun j h0 h1 => hall j h0 (by unfold plenU at h1; omega), fun h2 => by unfold plenU at h2; omega⟩
  | succ n ih =>
    intro i h hall
    unfold plenU
    split
    · refine ih (i + 1) (by omega) fun j h0 h1 => ?_
      by_cases e : j = i
      · subst e; assumption
      · exact hall j h0 (by omega)
    · exact ⟨by omega, by omega, hall, fun _ => by simpa using ‹¬ okW (bt s i) = true›⟩
def plen (s : ByteArray) : Int := (plenU s s.size 0 : Nat)
theorem plen_is (s : ByteArray) : IsPlain s (plen s) := plenU_is s s.size 0 (by omega) (fun j h0 h1 => by omega)
/-- one word at the front: what it says, whether it is quoted, what is behind it -/
def rdW (s : ByteArray) : Option (ByteArray × Bool × ByteArray) :=
  if 0 < s.size ∧ bt s 0 = 34 then (qR s 1).map fun r => (strOfNums r.1, true, s.extract r.2.toNat s.size)
  else if plen s = 0 then none else some (s.extract 0 (plen s).toNat, false, s.extract (plen s).toNat s.size)
def wR : Nat → ByteArray → Option (List (ByteArray × Bool))
  | 0, _ => none
  | n + 1, s => match rdW s with
    | none => none
    | some (t, q, r) => if r.size = 0 then some [(t, q)] else if bt r 0 ≠ 32 then none else (wR n (r.extract 1 r.size)).map fun l => (t, q) :: l
theorem qR_le {s : ByteArray} (n : Nat) : ∀ {i j : Int} {l : List Int}, (s.size - i).toNat = n → 0 ≤ i → qR s i = some (l, j) → i < j ∧ j ≤ s.size := by
  induction n using Nat.strongRecOn with
  | _ n ih =>
    intro i j l hn h0 h
    by_cases hi : i < s.size
    · by_cases c34 : bt s i = 34
      · rw [qR_end hi c34] at h
        simp only [Option.some.injEq, Prod.mk.injEq] at h
        omega
      · cases hI : itemQ s i with
        | none => rw [qR_bad hi c34 hI] at h; cases h
        | some bj =>
          obtain ⟨b, k⟩ := bj
          have hl := itemQ_le hI hi h0
          rw [qR_go hi h0 c34 hI] at h
          obtain ⟨⟨l2, j2⟩, h2, h3⟩ := Option.map_eq_some_iff.1 h
          simp only [Prod.mk.injEq] at h3
          obtain ⟨_, rfl⟩ := h3
          have := ih (s.size - k).toNat (by omega) rfl (by omega) h2
          omega
    · rw [qR_out hi] at h; cases h
theorem rdW_lt {s t r : ByteArray} {q : Bool} (h : rdW s = some (t, q, r)) : r.size < s.size := by
  unfold rdW at h
  split at h
  · obtain ⟨⟨l, j⟩, h1, h2⟩ := Option.map_eq_some_iff.1 h
    simp only [Prod.mk.injEq] at h2
    obtain ⟨_, _, rfl⟩ := h2
    have := qR_le _ rfl (by omega) h1
    rw [size_ext _ _ _ (Nat.le_refl _)]
    omega
  · split at h
    · cases h
    · simp only [Option.some.injEq, Prod.mk.injEq] at h
      obtain ⟨_, _, rfl⟩ := h
      obtain ⟨h0, h1, _, _⟩ := plen_is s
      rw [size_ext _ _ _ (Nat.le_refl _)]
      omega
/-- the state of a reader of words: what it has read, ahead of s, of what is told in all -/
def WAt (R : Option (List (ByteArray × Bool))) (S : Nat) (s : ByteArray) (acc : List (ByteArray × Bool)) : Prop := ∃ n, s.size < n ∧ (wR n s).map (fun l => acc ++ l) = R ∧ acc.length + s.size ≤ S
theorem WAt.start (s : ByteArray) : WAt (wR (s.size + 1) s) s.size s [] := ⟨s.size + 1, by omega, by simp, by simp⟩
theorem WAt.none_ {R : Option (List (ByteArray × Bool))} {S : Nat} {s : ByteArray} {acc : List (ByteArray × Bool)} (h : WAt R S s acc) (h1 : rdW s = none) : R = none := by
  obtain ⟨n, hn, rfl, _⟩ := h
  obtain ⟨m, rfl⟩ : ∃ m, n = m + 1 := ⟨n - 1, by omega⟩
  rw [wR, h1]; rfl
theorem WAt.last {R : Option (List (ByteArray × Bool))} {S : Nat} {s t r : ByteArray} {q : Bool} {acc : List (ByteArray × Bool)} (h : WAt R S s acc) (h1 : rdW s = some (t, q, r)) (h2 : r.size = 0) : R = some (acc ++ [(t, q)]) := by
  obtain ⟨n, hn, rfl, _⟩ := h
  obtain ⟨m, rfl⟩ : ∃ m, n = m + 1 := ⟨n - 1, by omega⟩
  rw [wR, h1]
  simp only [if_pos h2, Option.map_some]
theorem WAt.bad {R : Option (List (ByteArray × Bool))} {S : Nat} {s t r : ByteArray} {q : Bool} {acc : List (ByteArray × Bool)} (h : WAt R S s acc) (h1 : rdW s = some (t, q, r)) (h2 : ¬ r.size = 0) (h3 : bt r 0 ≠ 32) : R = none := by
  obtain ⟨n, hn, rfl, _⟩ := h
  obtain ⟨m, rfl⟩ : ∃ m, n = m + 1 := ⟨n - 1, by omega⟩
  rw [wR, h1]
  simp only [if_neg h2, if_pos h3, Option.map_none]
theorem WAt.go {R : Option (List (ByteArray × Bool))} {S : Nat} {s t r : ByteArray} {q : Bool} {acc : List (ByteArray × Bool)} (h : WAt R S s acc) (h1 : rdW s = some (t, q, r)) (h2 : ¬ r.size = 0) (h3 : ¬ bt r 0 ≠ 32) : WAt R S (r.extract 1 r.size) (acc ++ [(t, q)]) := by
  obtain ⟨n, hn, rfl, hS⟩ := h
  obtain ⟨m, rfl⟩ : ∃ m, n = m + 1 := ⟨n - 1, by omega⟩
  have hl := rdW_lt h1
  have hz := size_ext r 1 r.size (Nat.le_refl _)
  refine ⟨m, by omega, ?_, by rw [List.length_append, List.length_singleton]; omega⟩
  rw [wR, h1]
  simp only [if_neg h2, if_neg h3, Option.map_map]
  congr 1
  funext l
  simp
theorem WAt.len {R : Option (List (ByteArray × Bool))} {S : Nat} {s : ByteArray} {acc : List (ByteArray × Bool)} (h : WAt R S s acc) : acc.length + s.size ≤ S := by
  obtain ⟨n, hn, rfl, hS⟩ := h
  exact hS
/-- what the program tells of a plain word -/
def PRes (s : ByteArray) (n : Int) : Value := .tuple #[.string (s.extract 0 n.toNat), .string (s.extract n.toNat s.size), .bool (decide (0 < n))]
set_option maxHeartbeats 2000000 in
theorem plain_any (s : ByteArray) (m : Int) (hm : IsPlain s m) (w : World) (hs : s.size ≤ 140737488351232) : Calls Try.prog 12 #[.string s] w fun e w' => e = .returned (PRes s m) ∧ Below w.heap.size w w' := by
  have Hm := Lib.hid hm
  clear hm
  go_enter Try.func12, Try.ntmps12
  go_wp2
  go_loopw [5] (fun u wr => ∃ n : Int, u = .int .i64 n ∧ 0 ≤ n ∧ n ≤ s.size ∧ Hid (∀ j, 0 ≤ j → j < n → okW (bt s j) = true) ∧ Below w.heap.size w wr) (fun u _ => s.size - (intOf u).toNat)
  case atStart => exact ⟨0, rfl, by omega, by omega, Lib.hid (fun j h0 h1 => by omega), Below.refl _ _⟩
  case round =>
    obtain ⟨n, rfl, hn0, hn1, hall, hbel⟩ := hrel
    have hfin : (n < s.size → okW (bt s n) = false) → m = n := fun h => Hm.out.unique ⟨hn0, hn1, hall.out, h⟩
    have Hfin := Lib.hid hfin
    clear hfin
    by_cases hlt : n < s.size
    · have hbt := bt_at s n
      by_cases g1 : 33 ≤ bt s n
      · have q1 : 32 < bt s n := by omega
        by_cases g2 : bt s n ≤ 126
        · have q2 : bt s n < 127 := by omega
          by_cases g3 : bt s n = 34
          · obtain rfl := Hfin.out (fun _ => by unfold okW; rw [decide_eq_true g1, decide_eq_true g2, g3]; rfl)
            have q3 : (bt s m != 34) = false := by rw [bne_eq_false_iff_eq]; exact g3
            clear Hfin g3
            go_upto_region 4 with (fail)
            go_quiet (fail)
            go_wp2
            go_ret3
            exact ⟨rfl, below_drewN hbel _⟩
          · have q3 : (bt s n != 34) = true := by rw [bne_iff_ne]; exact g3
            have hk : okW (bt s n) = true := by unfold okW; rw [decide_eq_true g1, decide_eq_true g2, q3]; rfl
            have hall2 : Hid (∀ j, 0 ≤ j → j < n + 1 → okW (bt s j) = true) := Lib.hid (fun j h0 h1 => by
              by_cases e : j = n
              · rw [e]; exact hk
              · exact hall.out j h0 (by omega))
            clear Hfin g3 hk
            go_wp2
            exact ⟨⟨n + 1, rfl, by omega, by omega, hall2, hbel⟩, by simp [intOf]; omega⟩
        · obtain rfl := Hfin.out (fun _ => by unfold okW; rw [decide_eq_false g2]; simp)
          have q2 : ¬ bt s m < 127 := by omega
          clear Hfin
          go_upto_region 4 with (fail)
          go_quiet (fail)
          go_wp2
          go_ret3
          exact ⟨rfl, below_drewN hbel _⟩
      · obtain rfl := Hfin.out (fun _ => by unfold okW; rw [decide_eq_false g1]; rfl)
        have q1 : ¬ 32 < bt s m := by omega
        clear Hfin
        go_upto_region 4 with (fail)
        go_quiet (fail)
        go_wp2
        go_ret3
        exact ⟨rfl, below_drewN hbel _⟩
    · obtain rfl := Hfin.out (fun h => by omega)
      clear Hfin
      go_upto_region 4 with (fail)
      go_quiet (fail)
      go_wp2
      go_ret3
      exact ⟨rfl, below_drewN hbel _⟩
end Go.Proofs.Ytjfdbdjcceecjaa
