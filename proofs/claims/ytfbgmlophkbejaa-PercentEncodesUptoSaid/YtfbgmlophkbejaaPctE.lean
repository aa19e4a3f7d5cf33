/- Percent: the document's Decode. -/
import Derived.Test.YtfbgmlophkbejaaPctD
set_option linter.unusedVariables false
set_option linter.unusedSimpArgs false
namespace Go.Proofs.Ytfbgmlophkbejaa
open Go.RowKit Go.Proofs.YtfbgmlophkbejaaW.PrintWords Go.Proofs.YtfbgmlophkbejaaW.PrintLast
/-- what the document's Decode tells -/
def RDecSuch (s : ByteArray) (w : World) (en : Ending) (w' : World) : Prop := ∃ v, en = .returned (.tuple #[.string (decS s), .int .i64 ((cntF s 0 : Nat) : Int), v]) ∧ w'.ownsRow w.heap.size 3 1 v (strF s 0).length (nums .i64 (strF s 0)) ∧ Below w.heap.size w w'
/-- its state ahead of the item at p -/
def RDecAt (s : ByteArray) (w : World) (p : Int) (xs zs : List Int) (c : Nat) : Prop :=
  xs ++ (itemsF s p).map (byteC s) = decL s ∧ zs ++ strF s p = strF s 0 ∧ c + cntF s p = cntF s 0
theorem RDecAt.bounds {s : ByteArray} {w : World} {p : Int} {xs zs : List Int} {c : Nat} (h : RDecAt s w p xs zs c) (hp : p < s.size) (h0 : 0 ≤ p) : xs.length + 1 ≤ s.size ∧ zs.length ≤ s.size ∧ c ≤ s.size ∧ (isC s p = true → c + 1 ≤ s.size) ∧ (isS s p = true → zs.length + 1 ≤ s.size) := by
  obtain ⟨h1, h2, h3⟩ := h
  have a1 := itemsF_len s _ 0 (by omega) (by omega) rfl
  have a2 := strF_le s 0 (by omega) (by omega)
  have a3 := cntF_le s 0 (by omega) (by omega)
  have e1 := congrArg List.length h1
  have e2 := congrArg List.length h2
  rw [itemsF_go hp] at e1
  simp only [List.length_append, List.length_map, decL, List.length_cons] at e1 e2
  refine ⟨by omega, by omega, by omega, fun hc => ?_, fun hc => ?_⟩
  · rw [cntF_go hp, if_pos hc] at h3; omega
  · rw [strF_go hp, if_pos hc, List.length_cons] at e2; omega
theorem RDecAt.coded {s : ByteArray} {w : World} {p : Int} {xs zs : List Int} {c : Nat} (h : RDecAt s w p xs zs c) (hp : p < s.size) (hc : isC s p = true) : RDecAt s w (p + 3) (xs ++ [sayC s p]) zs (c + 1) := by
  obtain ⟨h1, h2, h3⟩ := h
  have hn : nxtC s p = p + 3 := by unfold nxtC; rw [if_pos hc]
  rw [itemsF_go hp, hn] at h1
  rw [strF_go hp, hn, if_neg (by unfold isS; rw [hc]; simp)] at h2
  rw [cntF_go hp, hn, if_pos hc] at h3
  refine ⟨?_, h2, by omega⟩
  rw [List.append_assoc, ← h1, List.map_cons]
  unfold byteC
  rw [if_pos hc]
  rfl
theorem RDecAt.plain {s : ByteArray} {w : World} {p : Int} {xs zs : List Int} {c : Nat} (h : RDecAt s w p xs zs c) (hp : p < s.size) (hc : isC s p = false) : RDecAt s w (p + 1) (xs ++ [bt s p]) (zs ++ if (bt s p == 37) = true then [p] else []) c := by
  obtain ⟨h1, h2, h3⟩ := h
  have hn : nxtC s p = p + 1 := by unfold nxtC; rw [if_neg (by rw [hc]; simp)]
  rw [itemsF_go hp, hn] at h1
  rw [strF_go hp, hn] at h2
  rw [cntF_go hp, hn, if_neg (by rw [hc]; simp)] at h3
  refine ⟨?_, ?_, by omega⟩
  · rw [List.append_assoc, ← h1, List.map_cons]
    unfold byteC
    rw [if_neg (by rw [hc]; simp)]
    rfl
  · rw [List.append_assoc, ← h2]
    congr 1
    unfold isS
    rw [hc]
    simp only [Bool.not_false, Bool.true_and]
    split <;> rfl
theorem two_lits (w : World) : ((w.alloc (.cells #[] 5)).alloc (.cells #[] 3)).ownsRow w.heap.size 3 1 (.slice (some ⟨w.heap.size + 1, 0, none⟩) 0 0) 0 (nums .i64 []) := by
  have h := own_lit (w.alloc (.cells #[] 5)) w.heap.size 3 .i64 [] (by simp) (by simp)
  simpa [nums] using h
set_option maxHeartbeats 2000000 in
theorem rdecode_any (s : ByteArray) (w : World) (hs : s.size * 8 ≤ 140737488351232) : Calls Try.prog 7 #[.string s] w (RDecSuch s w) := by
  go_enter Try.func7, Try.ntmps7
  go_wp2
  go_loopw [5, 6, 7, 8] (fun u n v i wr => ∃ (p : Int) (xs zs : List Int) (c : Nat), i = .int .i64 p ∧ 0 ≤ p ∧ p ≤ s.size ∧ n = .int .i64 (c : Int) ∧ Hid (RDecAt s w p xs zs c) ∧ wr.ownsRow w.heap.size 5 1 u xs.length (nums .u8 xs) ∧ wr.ownsRow w.heap.size 3 1 v zs.length (nums .i64 zs) ∧ Below w.heap.size w wr)
    (fun _ _ _ i _ => s.size - (intOf i).toNat)
  case atStart => exact ⟨0, [], [], 0, rfl, by omega, by omega, rfl, Lib.hid ⟨rfl, rfl, by omega⟩, (own_lit w w.heap.size 5 .u8 [] (Nat.le_refl _) (by simp)).alloc _, two_lits w, below_alloc (below_one _ _) _⟩
  case round =>
    obtain ⟨p, xs, zs, c, rfl, hp0, hp1, rfl, hR, hox, hoz, hbel⟩ := hrel
    by_cases hlt : p < s.size
    · obtain ⟨q1, q2, q3, q4, q5⟩ := hR.out.bounds hlt hp0
      have hbt := bt_at s p
      have hcall := fun W => (rcoded_any s p W (by omega) hp0 hlt).mono fun e w' h => (⟨h.1, h.2.symm⟩ : e = .returned (.bool (isC s p)) ∧ W = w')
      cases hc : isC s p
      · rw [hc] at hcall
        have Hcall := Lib.hid hcall
        have hR2 := hR.out.plain hlt hc
        have q7 : (bt s p == 37) = true → zs.length + 1 ≤ s.size := fun h => q5 (by unfold isS; rw [hc, h]; rfl)
        clear hcall hR q4 q5
        cases h37 : (bt s p == 37)
        · rw [h37, if_neg (by simp), List.append_nil] at hR2
          have HR2 := Lib.hid hR2
          clear hR2 hc
          go_wp2_with (first
            | (go_at_call 24; with_reducible refine (Hcall.out _).mono ?_; rintro e w' ⟨rfl, rfl⟩)
            | (at_builtin; refine print_append_num (w0 := w) (W := wr) w.heap.size rfl (.tmp 38) (.tmp 42) 49 5 .u8 1 rfl Try.underlying49 info_u8 (by decide) _ xs _ rfl rfl hox hbel hbel.size (by omega) ?_; intro v1 w1 ho1 hb1 hg1 hat1; have hoz1 := own_other hoz hg1 (own_type_ne hoz hox (by decide))))
          exact ⟨⟨p + 1, _, _, c, rfl, by omega, by omega, rfl, HR2, ho1, hoz1, hb1⟩, by simp [intOf]; omega⟩
        · rw [h37, if_pos rfl] at hR2
          have q6 := q7 h37
          have HR2 := Lib.hid hR2
          clear hR2 hc
          go_wp2_with (first
            | (go_at_call 24; with_reducible refine (Hcall.out _).mono ?_; rintro e w' ⟨rfl, rfl⟩)
            | (at_builtin; refine print_append_num (w0 := w) (W := wr) w.heap.size rfl (.tmp 34) (.tmp 36) 22 3 .i64 8 rfl Try.underlying22 info_int (by decide) _ zs _ rfl rfl hoz hbel hbel.size (by omega) ?_; intro v1 w1 ho1 hb1 hg1 hat1; have hox1 := own_other hox hg1 (own_type_ne hox hoz (by decide)))
            | (at_builtin; refine print_append_num (w0 := w) (W := w1) w.heap.size rfl (.tmp 38) (.tmp 42) 49 5 .u8 1 rfl Try.underlying49 info_u8 (by decide) _ xs _ rfl rfl hox1 hb1 hb1.size (by omega) ?_; intro v2 w2 ho2 hb2 hg2 hat2; have hoz2 := own_other ho1 hg2 (own_type_ne ho1 hox1 (by decide))))
          exact ⟨⟨p + 1, _, _, c, rfl, by omega, by omega, rfl, HR2, ho2, hoz2, hb2⟩, by simp [intOf]; omega⟩
      · rw [hc] at hcall
        have Hcall := Lib.hid hcall
        have HR2 := Lib.hid (hR.out.coded hlt hc)
        have hroom := isC_room hc
        have q6 := q4 hc
        have hsay := fun W => rsays_any s p W (by omega) hp0 hc
        have Hsay := Lib.hid hsay
        clear hcall hR q4 q5 hsay hc
        go_wp2_with (first
          | (go_at_call 24; with_reducible refine (Hcall.out _).mono ?_; rintro e w' ⟨rfl, rfl⟩)
          | (go_at_call 25; with_reducible refine (Hsay.out _).mono ?_; rintro e w1 ⟨rfl, hb1⟩; have hox1 := pw_own_below hox hb1; have hoz1 := pw_own_below hoz hb1; have hbel1 := below_after hbel hb1)
          | (at_builtin; refine print_append_num (w0 := w) (W := w1) w.heap.size rfl (.tmp 20) (.tmp 24) 49 5 .u8 1 rfl Try.underlying49 info_u8 (by decide) _ xs _ rfl rfl hox1 hbel1 hbel1.size (by omega) ?_; intro v2 w2 ho2 hb2 hg2 hat2; have hoz2 := own_other hoz1 hg2 (own_type_ne hoz1 hox1 (by decide))))
        exact ⟨⟨p + 3, _, _, c + 1, by go_num, by omega, by omega, by go_num, HR2, ho2, hoz2, hb2⟩, by simp [intOf]; omega⟩
    · obtain rfl : p = s.size := by omega
      obtain ⟨h1, h2, h3⟩ := hR.out
      rw [itemsF_end, List.map_nil, List.append_nil] at h1
      rw [strF_end, List.append_nil] at h2
      rw [cntF_end] at h3
      subst h1 h2
      obtain rfl : c = cntF s 0 := by omega
      have ht := own_string (P := Try.prog) Try.underlying49 Try.underlying5 Try.underlying9 hox
      clear h3
      go_wp2
      go_ret3
      exact ⟨_, rfl, hoz, hbel⟩
end Go.Proofs.Ytfbgmlophkbejaa
