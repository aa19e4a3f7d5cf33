/- Scalar: the first piece of a text, by the document. -/
import Derived.Test.YtgippjhkimohlaaDoorScaG
set_option linter.unusedVariables false
set_option linter.unusedSimpArgs false
namespace Go.Proofs.YtgippjhkimohlaaDoor
open Go.RowKit Go.Proofs.YtgippjhkimohlaaDoorW.PrintWords Go.Proofs.YtgippjhkimohlaaDoorW.PrintLast
set_option maxHeartbeats 1000000 in
theorem begins_any (c : Int) (w : World) (h : 0 ≤ c ∧ c ≤ 255) : Calls Tryd.prog 78 #[.int .u8 c] w fun e w' => e = .returned (.tuple #[.int .i64 (bgN c), .int .u8 (bgLo c), .int .u8 (bgHi c)]) ∧ w' = w := by
  obtain ⟨x, hx⟩ : ∃ x, bgLo c = x := ⟨_, rfl⟩
  obtain ⟨y, hy⟩ : ∃ y, bgHi c = y := ⟨_, rfl⟩
  obtain ⟨z, hz⟩ : ∃ z, bgN c = z := ⟨_, rfl⟩
  rw [hx, hy, hz]
  have key : ∀ a b d : Int, (bgLo c = a ∧ bgHi c = b ∧ bgN c = d) → x = a ∧ y = b ∧ z = d := fun a b d ⟨h1, h2, h3⟩ => ⟨hx.symm.trans h1, hy.symm.trans h2, hz.symm.trans h3⟩
  have Key := Lib.hid key
  clear key hx hy hz
  go_enter Tryd.func78, Tryd.ntmps78
  go_wp2
  all_goals go_ret3
  all_goals
    refine ⟨?_, rfl⟩
    have fin : ∀ a b d : Int, (bgLo c = a ∧ bgHi c = b ∧ bgN c = d) → Ending.returned (.tuple #[.int .i64 d, .int .u8 a, .int .u8 b]) = .returned (.tuple #[.int .i64 z, .int .u8 x, .int .u8 y]) := fun a b d hh => by obtain ⟨rfl, rfl, rfl⟩ := Key.out a b d hh; rfl
    refine fin _ _ _ ?_
    try simp only [beq_iff_eq, beq_eq_false_iff_ne, ne_eq] at *
    refine ⟨?_, ?_, ?_⟩
    · unfold bgLo
      repeat' split
      all_goals omega
    · unfold bgHi
      repeat' split
      all_goals omega
    · unfold bgN
      repeat' split
      all_goals omega
/-- how far the loop has come -/
structure SAt (t : ByteArray) (lo hi n : Int) : Prop where
  one : 1 ≤ n
  size : n ≤ t.size
  most : n ≤ bgN (bt t 0)
  ok : ∀ i, 1 ≤ i → i < n → okB t i
  lohi : n = 1 → lo = bgLo (bt t 0) ∧ hi = bgHi (bt t 0)
theorem SAt.start (t : ByteArray) (ht : 0 < t.size) (h2 : 2 ≤ bgN (bt t 0)) : SAt t (bgLo (bt t 0)) (bgHi (bt t 0)) 1 :=
  ⟨by omega, by omega, by omega, fun i _ _ => by omega, fun _ => ⟨rfl, rfl⟩⟩
theorem SAt.in_ {t : ByteArray} {lo hi n lo' hi' : Int} (h : SAt t lo hi n) (h1 : n = 1 → lo' = lo ∧ hi' = hi) (h2 : n ≠ 1 → lo' = 128 ∧ hi' = 191) : okB t n ↔ lo' ≤ bt t n ∧ bt t n ≤ hi' := by
  by_cases e : n = 1
  · subst e
    obtain ⟨rfl, rfl⟩ := h1 rfl
    obtain ⟨rfl, rfl⟩ := h.lohi rfl
    exact ⟨fun k => by rcases k with k | k; exact k.2; exact absurd rfl k.1, fun k => Or.inl ⟨rfl, k⟩⟩
  · obtain ⟨rfl, rfl⟩ := h2 e
    exact ⟨fun k => by rcases k with k | k; exact absurd k.1 e; exact k.2, fun k => Or.inr ⟨e, k⟩⟩
theorem SAt.next {t : ByteArray} {lo hi n : Int} (h : SAt t lo hi n) (h1 : n < bgN (bt t 0)) (h2 : n < t.size) (h3 : okB t n) (lo' hi' : Int) : SAt t lo' hi' (n + 1) := by
  have hp := h.one
  refine ⟨by omega, by omega, by omega, fun i hi hl => ?_, fun e => by omega⟩
  by_cases e : i = n
  · rw [e]; exact h3
  · exact h.ok i hi (by omega)
theorem SAt.done {t : ByteArray} {lo hi n : Int} (h : SAt t lo hi n) (ht : 0 < t.size) (h1 : n < bgN (bt t 0) → n < t.size → ¬ okB t n) : runT t = n := by
  have hs := h.size
  have hm := h.most
  refine (RunIs.eq ⟨h.one, h.ok, h.size, Or.inr hm, ?_⟩ ht).symm
  by_cases c1 : n < bgN (bt t 0)
  · by_cases c2 : n < t.size
    · exact Or.inr (Or.inr (h1 c1 c2))
    · exact Or.inr (Or.inl (by omega))
  · exact Or.inl (by omega)
set_option maxRecDepth 100000 in
set_option maxHeartbeats 4000000 in
theorem stands_any (t : ByteArray) (w : World) (ht : 0 < t.size) (hs : t.size ≤ 140737488351232) :
    Calls Tryd.prog 62 #[.string t] w fun e w' => e = .returned (.tuple #[.int .i64 (runT t), .int .i64 (bgN (bt t 0))]) ∧ Below w.heap.size w w' := by
  have hbt := bt_at t 0
  simp only [show (0 : Int).toNat = 0 from rfl] at hbt
  have hbr := bt_range t 0
  have hbg := fun W => begins_any (bt t 0) W hbr
  have hr4 := bgN_range (bt t 0)
  obtain ⟨R, hR⟩ : ∃ R, runT t = R := ⟨_, rfl⟩
  have hst := SAt.start t ht
  have hdone := fun (lo hi n : Int) (h : SAt t lo hi n) h1 => hR.symm.trans (h.done ht h1)
  have hnext := fun (lo hi n : Int) (h : SAt t lo hi n) => h.next
  rw [hR]
  by_cases h2 : bgN (bt t 0) < 2
  · have e : R = 1 := by rw [← hR]; unfold runT; rw [if_pos h2]
    subst e
    clear hst hdone hnext hR
    generalize bgN (bt t 0) = B at *
    generalize bgLo (bt t 0) = L at *
    generalize bgHi (bt t 0) = H at *
    have Hbg := Lib.hid hbg
    clear hbg
    go_enter Tryd.func62, Tryd.ntmps62
    go_wp2_with (go_at_call 78; (with_reducible refine (Hbg.out _).mono ?_); rintro e w1 ⟨rfl, hw1⟩; obtain rfl : w = w1 := hw1.symm)
    go_ret2
    exact ⟨rfl, by first | exact Below.refl _ _ | exact below_drewN (Below.refl _ _) _⟩
  · have Hst := Lib.hid (hst (by omega))
    have Hd := Lib.hid hdone
    have Hn := Lib.hid hnext
    clear hst hdone hnext hR
    generalize bgN (bt t 0) = B at *
    generalize bgLo (bt t 0) = L at *
    generalize bgHi (bt t 0) = H at *
    have Hbg := Lib.hid hbg
    clear hbg
    go_enter Tryd.func62, Tryd.ntmps62
    go_wp2_with (go_at_call 78; (with_reducible refine (Hbg.out _).mono ?_); rintro e w1 ⟨rfl, hw1⟩; obtain rfl : w = w1 := hw1.symm)
    go_loopw [5, 6, 7] (fun lo hi n wr => ∃ lo' hi' n' : Int, lo = .int .u8 lo' ∧ hi = .int .u8 hi' ∧ n = .int .i64 n' ∧ SAt t lo' hi' n' ∧ n' ≤ B ∧ Below w.heap.size w wr) (fun _ _ n _ => t.size - (intOf n).toNat)
    case atStart => exact ⟨_, _, _, rfl, rfl, rfl, Hst.out, by omega, by first | exact Below.refl _ _ | exact below_drewN (Below.refl _ _) _⟩
    case round =>
      clear Hst
      obtain ⟨lo, hi, n, rfl, rfl, rfl, hF, hnB, hbel⟩ := hrel
      have g1 := hF.one
      have g2 := hF.size
      have hbt := bt_at t n
      have hbr := bt_range t n
      have HF := Lib.hid hF
      have hin1 := fun h => hF.in_ (lo' := lo) (hi' := hi) (fun _ => ⟨rfl, rfl⟩) h
      have hin2 := fun h => hF.in_ (lo' := 128) (hi' := 191) h (fun _ => ⟨rfl, rfl⟩)
      clear hF
      by_cases c1 : n < B
      · by_cases c2 : n < t.size
        · by_cases c3 : n = 1
          · have hin := hin1 (fun h => absurd c3 h)
            clear hin1 hin2
            by_cases c4 : lo ≤ bt t n ∧ bt t n ≤ hi
            · have HN := fun a b => Lib.hid (Hn.out _ _ _ HF.out c1 c2 (hin.2 c4) a b)
              obtain ⟨c5, c6⟩ := c4
              clear hin
              subst c3
              simp only [show (1 : Int).toNat = 1 from rfl] at hbt
              have c2n : 1 < t.size := by omega
              go_wp2
              exact ⟨⟨_, _, _, rfl, rfl, rfl, (HN _ _).out, by omega, hbel⟩, by simp [intOf]; omega⟩
            · have HR := Lib.hid (Hd.out _ _ _ HF.out (fun _ _ k => c4 (hin.1 k)))
              have c5 : ¬ lo ≤ bt t n ∨ (lo ≤ bt t n ∧ ¬ bt t n ≤ hi) := by omega
              clear hin c4
              subst c3
              simp only [show (1 : Int).toNat = 1 from rfl] at hbt
              have c2n : 1 < t.size := by omega
              rcases c5 with c5 | ⟨c5, c6⟩
              all_goals
                go_wp2
                go_ret2
                exact ⟨by rw [HR.out]; rfl, hbel⟩
          · have hin := hin2 (fun h => absurd h c3)
            clear hin1 hin2
            by_cases c4 : 128 ≤ bt t n ∧ bt t n ≤ 191
            · have HN := fun a b => Lib.hid (Hn.out _ _ _ HF.out c1 c2 (hin.2 c4) a b)
              obtain ⟨c5, c6⟩ := c4
              clear hin
              go_wp2
              exact ⟨⟨_, _, _, rfl, rfl, rfl, (HN _ _).out, by omega, hbel⟩, by simp [intOf]; omega⟩
            · have HR := Lib.hid (Hd.out _ _ _ HF.out (fun _ _ k => c4 (hin.1 k)))
              have c5 : ¬ 128 ≤ bt t n ∨ (128 ≤ bt t n ∧ ¬ bt t n ≤ 191) := by omega
              clear hin c4
              rcases c5 with c5 | ⟨c5, c6⟩
              all_goals
                go_wp2
                go_ret2
                exact ⟨by rw [HR.out]; rfl, hbel⟩
        · have HR := Lib.hid (Hd.out _ _ _ HF.out (fun _ h => absurd h c2))
          clear hin1 hin2
          go_wp2
          go_ret2
          exact ⟨by rw [HR.out]; rfl, hbel⟩
      · have HR := Lib.hid (Hd.out _ _ _ HF.out (fun h _ => absurd h c1))
        clear hin1 hin2
        go_wp2
        go_ret2
        exact ⟨by rw [HR.out]; rfl, hbel⟩
end Go.Proofs.YtgippjhkimohlaaDoor
