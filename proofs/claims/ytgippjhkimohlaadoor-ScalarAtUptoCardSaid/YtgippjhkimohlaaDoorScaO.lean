/- Scalar: the statements' awake. -/
import Derived.Test.YtgippjhkimohlaaDoorScaN
set_option linter.unusedVariables false
set_option linter.unusedSimpArgs false
namespace Go.Proofs.YtgippjhkimohlaaDoor
open Go.RowKit Go.Proofs.YtgippjhkimohlaaDoorW.PrintWords Go.Proofs.YtgippjhkimohlaaDoorW.PrintLast
theorem dec_awake : decT ⟨#[97, 226, 130]⟩ = [97, 65533] := by decide +kernel
theorem enc_awake : encS [8364] = ⟨#[226, 130, 172]⟩ := by decide +kernel
theorem cell_keep {w w' : World} {a : Addr} {v : Value} (h : w.cell? a = some v) (hb : Below w.heap.size w w') : w'.cell? a = some v :=
  (hb.cell (block_lt_of_cell h)).trans h
theorem cell_keep_alloc {w : World} {a : Addr} {v : Value} (h : w.cell? a = some v) (o : Obj) : (w.alloc o).cell? a = some v := cell_keep h (below_one w o)
theorem ReadsInt.cell_one {w : World} {k : IntKind} {ad : Addr} {n : Nat} {x y : Int} {l : List Int} (h : ReadsInt w k (some ad) n (x :: y :: l)) (hn : 1 < n) : w.cell? ⟨ad.block, ad.off + 1, none⟩ = some (.int k y) := by
  obtain ⟨ad', he, c⟩ := h.at_ 1 (by decide) (by omega)
  obtain rfl := Option.some.inj he
  rw [show (1 : Int).toNat = 0 + 1 from rfl, Addr.add_succ'] at c
  exact c
theorem NewDecoder_any (w : World) : Calls Tryd.prog 38 #[] w fun e w' => e = .returned (.pointer (some ⟨w.heap.size, 0, none⟩)) ∧ w' = w.alloc (.cells #[.string ByteArray.empty] 102) := by
  go_enter Tryd.func38, Tryd.ntmps38
  go_wp2
  go_ret
  exact ⟨rfl, rfl⟩
set_option maxRecDepth 100000 in
set_option maxHeartbeats 2000000 in
theorem awake_any (w : World) (T : Tabs w) : Calls Tryd.prog 17 #[] w fun e w' => e = .returned (.bool true) ∧ Below w.heap.size w w' := by
  have hd := Decode_any ⟨#[97, 226, 130]⟩ w (by decide) T
  rw [dec_awake] at hd
  have he : ∀ A c W, ReadsInt W .i32 A 1 [8364] → Calls Tryd.prog 27 #[.slice A 1 c] W fun e w' => e = .returned (.tuple #[.string ⟨#[226, 130, 172]⟩, .int .i64 0, .int .i64 0]) ∧ Below W.heap.size W w' := fun A c W h => by
    have := Encode_ok [8364] A c W (by decide) h (by decide)
    rw [enc_awake] at this
    exact this
  have hlit : ∀ W : World, ReadsInt (W.alloc (.cells #[.int .i32 8364] 21)) .i32 (some ⟨W.heap.size, 0, none⟩) 1 [8364] := fun W =>
    own_reads' (c := 1) (World.ownsRow_lit (base := W.heap.size) (e := 21) (size := 1) W #[.int .i32 8364] 1 (Nat.le_refl _) (by simp [maxLen]) rfl)
  have Hd := Lib.hid hd
  have He := Lib.hid he
  have Hl := Lib.hid hlit
  clear hd he hlit
  go_enter Tryd.func17, Tryd.ntmps17
  go_wp2_with (first
    | (go_at_call 19; go_loud ((with_reducible refine (Hd.out).mono ?_); rintro e w1 ⟨hb1, v, rfl, ho⟩; obtain ⟨A1, c1, rfl, hr⟩ := own_reads ho; obtain ⟨ad, rfl, c0⟩ := hr.at_ 0 (by decide) (by decide); have c1' := ReadsInt.cell_one hr (by decide); rw [show (0 : Int).toNat = 0 from rfl, Addr.add_zero'] at c0))
    | (go_at_call 27; (with_reducible refine (He.out _ _ _ (Hl.out _)).mono ?_); rintro e w2 ⟨rfl, hb2⟩; have d0 := cell_keep (cell_keep_alloc c0 (.cells #[.int .i32 8364] 21)) hb2; have d1 := cell_keep (cell_keep_alloc c1' (.cells #[.int .i32 8364] 21)) hb2; have hbel2 := below_after (below_alloc hb1 (.cells #[.int .i32 8364] 21)) hb2)
    | (go_at_call 38; (with_reducible refine (NewDecoder_any _).mono ?_); rintro e w3 ⟨rfl, rfl⟩))
  go_ret
  exact ⟨rfl, below_alloc hbel2 _⟩
end Go.Proofs.YtgippjhkimohlaaDoor
