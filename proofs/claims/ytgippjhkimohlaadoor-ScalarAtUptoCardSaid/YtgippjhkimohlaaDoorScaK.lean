/- Scalar: Decode, by the program and by the document. -/
import Derived.Test.YtgippjhkimohlaaDoorScaJ
set_option linter.unusedVariables false
set_option linter.unusedSimpArgs false
namespace Go.Proofs.YtgippjhkimohlaaDoor
open Go.RowKit Go.Proofs.YtgippjhkimohlaaDoorW.PrintWords Go.Proofs.YtgippjhkimohlaaDoorW.PrintLast
/-- a new row of runes -/
def RPost (T : TypeId) (l : List Int) (w : World) (e : Ending) (w' : World) : Prop :=
  Below w.heap.size w w' ∧ ∃ v, e = .returned v ∧ w'.ownsRow w.heap.size T 1 v l.length (nums .i32 l)
theorem info_i32 : (Tryd.prog.info? 21).map (fun i => (i.zero, i.size, i.bytes)) = some (some (.int .i32 0), 1, 4) := by kernel_rfl
def pc0 : Int × Pc := (0, ⟨0, 0, false⟩)
/-- a piece in a row of pieces -/
theorem piece_at {w : World} {A : Option Addr} {n : Nat} {l : List (Int × Pc)} (h : ReadsRow PCell 4 w A n l) (k : Nat) (hk : k < n) :
    ∃ ad, A = some ad ∧ w.cell? (ad.add (k * 4)) = some (.int .i64 (l.getD k pc0).1) ∧ w.cell? ⟨(ad.add (k * 4)).block, (ad.add (k * 4)).off + 1, none⟩ = some (.int .i64 (l.getD k pc0).2.size) ∧
      w.cell? ⟨(ad.add (k * 4)).block, (ad.add (k * 4)).off + 2, none⟩ = some (.int .i32 (l.getD k pc0).2.rune) ∧ w.cell? ⟨(ad.add (k * 4)).block, (ad.add (k * 4)).off + 3, none⟩ = some (.bool (l.getD k pc0).2.bad) := by
  obtain ⟨ad, c, he, hc, hp, hu⟩ := h.get_ pc0 (k : Int) (by omega) (by omega)
  simp only [Int.toNat_natCast] at hp hu
  unfold PCell at hp
  rw [hp] at hu
  refine ⟨ad, he, hu 0 _ rfl, ?_, ?_, ?_⟩
  · rw [← add_field ad (k * 4) 1 (by omega)]; exact hu 1 _ rfl
  · rw [← add_field ad (k * 4) 2 (by omega)]; exact hu 2 _ rfl
  · rw [← add_field ad (k * 4) 3 (by omega)]; exact hu 3 _ rfl
theorem take_rune (l : List (Int × Pc)) (k : Nat) (h : k < l.length) : (l.take (k + 1)).map (·.2.rune) = (l.take k).map (·.2.rune) ++ [(l.getD k pc0).2.rune] := by
  rw [List.take_succ_eq_append_getElem h, List.map_append, List.getD_eq_getElem?_getD, List.getElem?_eq_getElem h]
  rfl
set_option maxRecDepth 100000 in
set_option maxHeartbeats 4000000 in
theorem Decode_any (s : ByteArray) (w : World) (hs : s.size * 24 + 24 ≤ 140737488351232) (T : Tabs w) : Calls Tryd.prog 19 #[.string s] w (RPost 21 (decT s) w) := by
  have hp := Pieces_any s w hs T
  have hn := pcs_len s s.size 0 (by omega) (by omega)
  unfold decT
  generalize pcs s 0 = l at *
  have Hp := Lib.hid hp
  clear hp
  go_enter Tryd.func19, Tryd.ntmps19
  go_wp2_with (go_at_call 21; (with_reducible refine (Hp.out).mono ?_); rintro e w1 ⟨hb1, v, rfl, ho⟩; obtain ⟨A1, c1, rfl, hc1, hr⟩ := ho.reads)
  have Hr := Lib.hid hr
  clear ho hr
  go_loopw [3, 9] (fun u i wr => ∃ k : Nat, i = .int .i64 (k : Int) ∧ k ≤ l.length ∧ wr.ownsRow w1.heap.size 21 1 u ((l.take k).map (·.2.rune)).length (nums .i32 ((l.take k).map (·.2.rune))) ∧ Below w1.heap.size w1 wr) (fun _ i _ => l.length - (intOf i).toNat)
  case atStart => exact ⟨0, rfl, by omega, own_nil _ _ _ _, Below.refl _ _⟩
  case round =>
    obtain ⟨k, rfl, hk, ho, hbel⟩ := hrel
    by_cases hlt : k < l.length
    · obtain ⟨ad, rfl, d0, d1, d2, d3⟩ := piece_at (Hr.out.imp_ hbel (fun p c h => h)) k hlt
      have ht := take_rune l k hlt
      have hz : (l.take k).length ≤ k := List.length_take_le _ _
      have hsz := hbel.size
      generalize (l.getD k pc0).1 = x at *
      generalize (l.getD k pc0).2.size = x1 at *
      generalize (l.getD k pc0).2.rune = x2 at *
      generalize (l.getD k pc0).2.bad = x3 at *
      have Ht := Lib.hid ht
      clear ht
      have hnb := own_lt ho
      go_wp2_with (at_builtin; (refine print_append_num (w0 := w1) (W := wr.alloc (.cells #[.int .i64 x, .int .i64 x1, .int .i32 x2, .bool x3] 32)) w1.heap.size rfl (.tmp 13) (.tmp 16) 24 21 .i32 4 rfl Tryd.underlying24 info_i32 (by decide) _ ((l.take k).map (·.2.rune)) x2 rfl (by rw [size_alloc]; rfl) (ho.alloc _) (below_alloc hbel _) (by rw [size_alloc]; omega) (by rw [List.length_map]; omega) ?_); intro v1 w2 ho2 hb2 hg2 hat2)
      rw [← Ht.out] at ho2
      exact ⟨⟨k + 1, rfl, by omega, ho2, hb2⟩, by simp [intOf]; omega⟩
    · obtain rfl : k = l.length := by omega
      rw [List.take_length] at ho
      have hb3 := below_after hb1 hbel
      have Ho := Lib.hid (own_less ho hb1.size)
      clear ho
      go_wp2
      go_ret
      exact ⟨hb3, _, rfl, Ho.out⟩
end Go.Proofs.YtgippjhkimohlaaDoor
