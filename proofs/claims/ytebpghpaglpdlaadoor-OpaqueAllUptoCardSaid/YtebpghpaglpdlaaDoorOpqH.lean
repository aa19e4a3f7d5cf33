/- Opaque: All and Escape, by the program. -/
import Derived.Test.YtebpghpaglpdlaaDoorOpqG
set_option linter.unusedVariables false
set_option linter.unusedSimpArgs false
namespace Go.Proofs.YtebpghpaglpdlaaDoor
open Go.RowKit Go.Proofs.YtebpghpaglpdlaaDoorW.PrintWords Go.Proofs.YtebpghpaglpdlaaDoorW.PrintLast
/-- the places of the pieces that say something of a kind -/
def allF (f : Int → Bool) : List (Int × Pc) → List Int
  | [] => []
  | p :: l => if f p.2.rune then p.1 :: allF f l else allF f l
theorem allF_append (f : Int → Bool) (l r : List (Int × Pc)) : allF f (l ++ r) = allF f l ++ allF f r := by
  induction l with
  | nil => rfl
  | cons p l ih =>
    simp only [List.cons_append, allF, ih]
    split <;> rfl
theorem allF_len (f : Int → Bool) (l : List (Int × Pc)) : (allF f l).length ≤ l.length := by
  induction l with
  | nil => simp [allF]
  | cons p l ih =>
    unfold allF
    split <;> simp <;> omega
theorem allF_take (f : Int → Bool) (l : List (Int × Pc)) (k : Nat) (h : k < l.length) : allF f (l.take (k + 1)) = allF f (l.take k) ++ if f (l.getD k pc0).2.rune then [(l.getD k pc0).1] else [] := by
  rw [List.take_succ_eq_append_getElem h, allF_append, List.getD_eq_getElem?_getD, List.getElem?_eq_getElem h]
  rfl
theorem info_intH : (Tryd.prog.info? 3).map (fun i => (i.zero, i.size, i.bytes)) = some (some (.int .i64 0), 1, 8) := by kernel_rfl
set_option maxRecDepth 100000 in
set_option maxHeartbeats 4000000 in
theorem All_dom (s : ByteArray) (w : World) (hs : s.size ≤ 16777216) (T : Tabs w) : Calls Tryd.prog 27 #[.string s, .bool true] w fun e w' => Below w.heap.size w w' ∧ ∃ v, e = .returned v ∧ w'.ownsRow w.heap.size 3 1 v (allF (fun r => inT r 10) (pcs s 0)).length (nums .i64 (allF (fun r => inT r 10) (pcs s 0))) := by
  have hp := Pieces_any s w (by omega) T
  have hn := pcs_len s s.size 0 (by omega) (by omega)
  generalize pcs s 0 = l at *
  have Hp := Lib.hid hp
  have Hho := Lib.hid (fun r W => Domain_any r W)
  clear hp
  go_enter Tryd.func27, Tryd.ntmps27
  go_wp2_with (go_at_call 33; (with_reducible refine (Hp.out).mono ?_); rintro e w1 ⟨hb1, v, rfl, ho⟩; obtain ⟨A1, c1, rfl, hc1, hr⟩ := ho.reads)
  have Hr := Lib.hid hr
  clear ho hr
  go_loopw [6, 13] (fun u i wr => ∃ k : Nat, i = .int .i64 (k : Int) ∧ k ≤ l.length ∧ wr.ownsRow w1.heap.size 3 1 u (allF (fun r => inT r 10) (l.take k)).length (nums .i64 (allF (fun r => inT r 10) (l.take k))) ∧ Below w1.heap.size w1 wr) (fun _ i _ => l.length - (intOf i).toNat)
  case atStart => exact ⟨0, rfl, by omega, own_nil _ _ _ _, Below.refl _ _⟩
  case round =>
    obtain ⟨k, rfl, hk, ho, hbel⟩ := hrel
    by_cases hlt : k < l.length
    · obtain ⟨ad, rfl, d0, d1, d2, d3⟩ := piece_at (Hr.out.imp_ hbel (fun p c h => h)) k hlt
      have ht := allF_take (fun r => inT r 10) l k hlt
      have hz : (allF (fun r => inT r 10) (l.take k)).length ≤ k := Nat.le_trans (allF_len _ _) (List.length_take_le _ _)
      have hsz := hbel.size
      generalize (l.getD k pc0).1 = x at *
      generalize (l.getD k pc0).2.size = x1' at *
      generalize (l.getD k pc0).2.rune = x2' at *
      generalize (l.getD k pc0).2.bad = x3' at *
      generalize allF (fun r => inT r 10) (l.take k) = X at *
      have hh := Hho.out x2'
      have hblk := Blk.new wr 49 #[.int .i64 x, .int .i64 x1', .int .i32 x2', .bool x3']
      have hL := below_alloc hbel (.cells #[.int .i64 x, .int .i64 x1', .int .i32 x2', .bool x3'] 49)
      have hoL := ho.alloc (.cells #[.int .i64 x, .int .i64 x1', .int .i32 x2', .bool x3'] 49)
      have hnb := own_lt ho
      cases hc : inT x2' 10 with
      | true =>
        have ht2 : allF (fun r => inT r 10) (l.take (k + 1)) = X ++ [x] := by rw [ht, if_pos hc]
        rw [hc] at hh
        have HH := Lib.hid hh
        have Ht := Lib.hid ht2
        clear hh hc ht ht2
        go_upto_region 9 with (go_at_call 16; (with_reducible refine (HH.out _).mono ?_); rintro e w2 ⟨rfl, hb2⟩; have hblk2 := (fun h => Blk.after h hb2) hblk; have hL2 := below_after hL hb2; have ho2 := pw_own_below hoL hb2; (obtain ⟨g0, g1, g2, g3, g4, g5, g6, g7⟩ := Blk.facts hblk2))
        go_wp2_with (at_builtin; (refine print_append_num (w0 := w1) (W := w2) w1.heap.size rfl (.tmp 21) (.tmp 24) 37 3 .i64 8 rfl Tryd.underlying37 info_intH (by decide) _ X x rfl rfl ho2 hL2 hL2.size (by omega) ?_); intro v1 w3 ho3 hb3 hg3 hat3)
        rw [← Ht.out] at ho3
        exact ⟨⟨k + 1, rfl, by omega, ho3, hb3⟩, by simp [intOf]; omega⟩
      | false =>
        have ht2 : allF (fun r => inT r 10) (l.take (k + 1)) = X := by rw [ht, if_neg (by rw [hc]; decide), List.append_nil]
        rw [hc] at hh
        have HH := Lib.hid hh
        have Ht := Lib.hid ht2
        clear hh hc ht ht2
        go_wp2_with (go_at_call 16; (with_reducible refine (HH.out _).mono ?_); rintro e w2 ⟨rfl, hb2⟩; have hL2 := below_after hL hb2; have ho2 := pw_own_below hoL hb2)
        exact ⟨⟨k + 1, rfl, by omega, by rw [Ht.out]; exact ho2, hL2⟩, by simp [intOf]; omega⟩
    · obtain rfl : k = l.length := by omega
      rw [List.take_length] at ho
      have hb3 := below_after hb1 hbel
      have Ho := Lib.hid (own_less ho hb1.size)
      clear ho
      go_wp2
      go_ret
      exact ⟨hb3, _, rfl, Ho.out⟩
set_option maxRecDepth 100000 in
set_option maxHeartbeats 4000000 in
theorem All_host (s : ByteArray) (w : World) (hs : s.size ≤ 16777216) (T : Tabs w) : Calls Tryd.prog 27 #[.string s, .bool false] w fun e w' => Below w.heap.size w w' ∧ ∃ v, e = .returned v ∧ w'.ownsRow w.heap.size 3 1 v (allF (fun r => inT r 9) (pcs s 0)).length (nums .i64 (allF (fun r => inT r 9) (pcs s 0))) := by
  have hp := Pieces_any s w (by omega) T
  have hn := pcs_len s s.size 0 (by omega) (by omega)
  generalize pcs s 0 = l at *
  have Hp := Lib.hid hp
  have Hho := Lib.hid (fun r W => Host_any r W)
  clear hp
  go_enter Tryd.func27, Tryd.ntmps27
  go_wp2_with (go_at_call 33; (with_reducible refine (Hp.out).mono ?_); rintro e w1 ⟨hb1, v, rfl, ho⟩; obtain ⟨A1, c1, rfl, hc1, hr⟩ := ho.reads)
  have Hr := Lib.hid hr
  clear ho hr
  go_loopw [6, 13] (fun u i wr => ∃ k : Nat, i = .int .i64 (k : Int) ∧ k ≤ l.length ∧ wr.ownsRow w1.heap.size 3 1 u (allF (fun r => inT r 9) (l.take k)).length (nums .i64 (allF (fun r => inT r 9) (l.take k))) ∧ Below w1.heap.size w1 wr) (fun _ i _ => l.length - (intOf i).toNat)
  case atStart => exact ⟨0, rfl, by omega, own_nil _ _ _ _, Below.refl _ _⟩
  case round =>
    obtain ⟨k, rfl, hk, ho, hbel⟩ := hrel
    by_cases hlt : k < l.length
    · obtain ⟨ad, rfl, d0, d1, d2, d3⟩ := piece_at (Hr.out.imp_ hbel (fun p c h => h)) k hlt
      have ht := allF_take (fun r => inT r 9) l k hlt
      have hz : (allF (fun r => inT r 9) (l.take k)).length ≤ k := Nat.le_trans (allF_len _ _) (List.length_take_le _ _)
      have hsz := hbel.size
      generalize (l.getD k pc0).1 = x at *
      generalize (l.getD k pc0).2.size = x1' at *
      generalize (l.getD k pc0).2.rune = x2' at *
      generalize (l.getD k pc0).2.bad = x3' at *
      generalize allF (fun r => inT r 9) (l.take k) = X at *
      have hh := Hho.out x2'
      have hblk := Blk.new wr 49 #[.int .i64 x, .int .i64 x1', .int .i32 x2', .bool x3']
      have hL := below_alloc hbel (.cells #[.int .i64 x, .int .i64 x1', .int .i32 x2', .bool x3'] 49)
      have hoL := ho.alloc (.cells #[.int .i64 x, .int .i64 x1', .int .i32 x2', .bool x3'] 49)
      have hnb := own_lt ho
      cases hc : inT x2' 9 with
      | true =>
        have ht2 : allF (fun r => inT r 9) (l.take (k + 1)) = X ++ [x] := by rw [ht, if_pos hc]
        rw [hc] at hh
        have HH := Lib.hid hh
        have Ht := Lib.hid ht2
        clear hh hc ht ht2
        go_upto_region 9 with (go_at_call 14; (with_reducible refine (HH.out _).mono ?_); rintro e w2 ⟨rfl, hb2⟩; have hblk2 := (fun h => Blk.after h hb2) hblk; have hL2 := below_after hL hb2; have ho2 := pw_own_below hoL hb2; (obtain ⟨g0, g1, g2, g3, g4, g5, g6, g7⟩ := Blk.facts hblk2))
        go_wp2_with (at_builtin; (refine print_append_num (w0 := w1) (W := w2) w1.heap.size rfl (.tmp 21) (.tmp 24) 37 3 .i64 8 rfl Tryd.underlying37 info_intH (by decide) _ X x rfl rfl ho2 hL2 hL2.size (by omega) ?_); intro v1 w3 ho3 hb3 hg3 hat3)
        rw [← Ht.out] at ho3
        exact ⟨⟨k + 1, rfl, by omega, ho3, hb3⟩, by simp [intOf]; omega⟩
      | false =>
        have ht2 : allF (fun r => inT r 9) (l.take (k + 1)) = X := by rw [ht, if_neg (by rw [hc]; decide), List.append_nil]
        rw [hc] at hh
        have HH := Lib.hid hh
        have Ht := Lib.hid ht2
        clear hh hc ht ht2
        go_wp2_with (go_at_call 14; (with_reducible refine (HH.out _).mono ?_); rintro e w2 ⟨rfl, hb2⟩; have hL2 := below_after hL hb2; have ho2 := pw_own_below hoL hb2)
        exact ⟨⟨k + 1, rfl, by omega, by rw [Ht.out]; exact ho2, hL2⟩, by simp [intOf]; omega⟩
    · obtain rfl : k = l.length := by omega
      rw [List.take_length] at ho
      have hb3 := below_after hb1 hbel
      have Ho := Lib.hid (own_less ho hb1.size)
      clear ho
      go_wp2
      go_ret
      exact ⟨hb3, _, rfl, Ho.out⟩
/-- what Escape codes -/
def escP (b : Int) : Bool := inSet (nW 9) b || inSet (nW 1) b
def escS (s : ByteArray) : ByteArray := strOfNums (Z.encL escP (bytesOf s))
theorem encL_congr {p q : Int → Bool} {l : List Int} (h : ∀ b ∈ l, p b = q b) : Z.encL p l = Z.encL q l := by
  induction l with
  | nil => rfl
  | cons b l ih =>
    unfold Z.encL at ih ⊢
    rw [List.flatMap_cons, List.flatMap_cons, ih (fun x hx => h x (List.mem_cons_of_mem _ hx))]
    unfold Z.encB
    rw [h b (List.mem_cons_self ..)]
theorem union_hc {g : Nat} {w : World} (h : Blk w g 52 (nums .u64 [rd (nW 9) 0, rd (nW 9) 1, rd (nW 9) 2, rd (nW 9) 3, rd (nW 1) 0, rd (nW 1) 1, rd (nW 1) 2, rd (nW 1) 3]).toArray) :
    Calls Tryd.prog 45 #[.slice (some ⟨g, 0, none⟩) 2 2] w (Set4Such (fun y0 y1 y2 y3 => Wf4 y0 y1 y2 y3 ∧ ∀ b, 0 ≤ b → b < 256 → inSet [y0, y1, y2, y3] b = escP b) w) := by
  refine (union_two (by refine wf_lits ?_; decide +kernel) (by refine wf_lits ?_; decide +kernel) h).mono ?_
  rintro e w' ⟨y0, y1, y2, y3, hy, rest⟩
  exact ⟨y0, y1, y2, y3, ⟨hy.1, fun b h0 h1 => by rw [hy.2 b h0 h1]; unfold escP; rw [← nW_four, ← nW_four]⟩, rest⟩
set_option maxRecDepth 100000 in
set_option maxHeartbeats 8000000 in
theorem Escape_any (s : ByteArray) (w : World) (hs : s.size ≤ 16777216) : Calls Tryd.prog 29 #[.string s] w fun e w' => e = .returned (.string (escS s)) ∧ Below w.heap.size w w' := by
  have hn9 := Lib.hid (fun W => named_any 9 W)
  have hn1 := Lib.hid (fun W => named_any 1 W)
  have HU := Lib.hid (fun (g : Nat) (W : World) (h : Blk W g 52 (nums .u64 [rd (nW 9) 0, rd (nW 9) 1, rd (nW 9) 2, rd (nW 9) 3, rd (nW 1) 0, rd (nW 1) 1, rd (nW 1) 2, rd (nW 1) 3]).toArray) => union_hc h)
  generalize rd (nW 9) 0 = x0 at *
  generalize rd (nW 9) 1 = x1 at *
  generalize rd (nW 9) 2 = x2 at *
  generalize rd (nW 9) 3 = x3 at *
  generalize rd (nW 1) 0 = z0 at *
  generalize rd (nW 1) 1 = z1 at *
  generalize rd (nW 1) 2 = z2 at *
  generalize rd (nW 1) 3 = z3 at *
  generalize nE 9 = n9 at *
  generalize nE 1 = n1 at *
  go_enter Tryd.func29, Tryd.ntmps29
  go_upto_region 2 with (go_at_call 34; (with_reducible refine (hn9.out _).mono ?_); rintro e w1 ⟨rfl, hb1⟩)
  have b3 := Blk.new w1 52 (arr4 x0 x1 x2 x3)
  have hL1 := below_alloc hb1 (.cells (arr4 x0 x1 x2 x3) 52)
  change Code.wp _ _ _ _ (w1.alloc (.cells (arr4 x0 x1 x2 x3) 52))
  generalize hW1 : w1.alloc (.cells (arr4 x0 x1 x2 x3) 52) = W1 at *
  generalize hP3 : w1.heap.size = P3 at *
  go_upto_region 3 with (go_at_call 34; (with_reducible refine (hn1.out _).mono ?_); rintro e w2 ⟨rfl, hb2⟩)
  have b32 := (b3.after hb2).alloc (.cells (arr4 z0 z1 z2 z3) 52)
  have b5 := Blk.new w2 52 (arr4 z0 z1 z2 z3)
  have hL2 := below_alloc (below_after hL1 hb2) (.cells (arr4 z0 z1 z2 z3) 52)
  change Code.wp _ _ _ _ (w2.alloc (.cells (arr4 z0 z1 z2 z3) 52))
  generalize w2.alloc (.cells (arr4 z0 z1 z2 z3) 52) = W2 at *
  generalize w2.heap.size = P5 at *
  go_wp2_with (first
    | (refine wp_load_blk rfl 52 _ rfl P3 rfl 52 _ b32 _ Tryd.underlying52 rfl 4 size_B rfl ?_)
    | (refine wp_load_blk rfl 52 _ rfl P5 rfl 52 _ b5 _ Tryd.underlying52 rfl 4 size_B rfl ?_)
    | (refine wp_lits2 rfl rfl _ _ rfl rfl rfl ?_; intro gL wL hbL hbc)
    | (go_at_call 45; refine (HU.out _ _ hbL).mono ?_; rintro e w3 ⟨y0, y1, y2, y3, ⟨hy, hin⟩, rfl, hb3⟩; have Hen := Lib.hid (fun W => Z.encode_any s y0 y1 y2 y3 W (by omega)))
    | (go_at_call 35; (with_reducible refine (Hen.out _).mono ?_); rintro e w4 ⟨rfl, hb4⟩))
  go_ret
  exact ⟨by unfold escS; rw [encL_congr (fun b hb => (hin b (mem_bytesOf hb).1 (by have := (mem_bytesOf hb).2; omega)).symm)]; rfl, below_after (below_after (below_after hL2 hbc) hb3) hb4⟩
end Go.Proofs.YtebpghpaglpdlaaDoor
