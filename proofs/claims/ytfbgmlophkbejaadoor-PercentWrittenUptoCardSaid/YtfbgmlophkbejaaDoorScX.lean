/- A strings.Builder of the call's own, runes written into it: copyCheck, WriteRune, String. Scalar: Encode by the program, where all are scalar values; the statements' awake. Scalar: the statements' awake. Scalar: Decode by the document. Scalar: Encode where a number is no scalar value; Clean. From this repo's own contracts to the printed form: rows of numbers, rows of pieces. -/
import Derived.Test.YtfbgmlophkbejaaDoorScP
import Derived.Test.YtfbgmlophkbejaaDoorShelf
import Derived.Lib.FrozenHead
import Derived.Lib.RuneBytes
import Derived.Test.YtfbgmlophkbejaaDoorScW
import Derived.Laws.Cover4
set_option linter.unusedVariables false
set_option linter.unusedSimpArgs false
namespace Go.Proofs.YtfbgmlophkbejaaDoor
open Go.RowKit Go.Proofs.YtfbgmlophkbejaaDoorW.PrintWords Go.Proofs.YtfbgmlophkbejaaDoorW.PrintLast
theorem sizeBld : (Tryd.prog.info? 76).map (·.size) = some 2 := by kernel_rfl
theorem liesBld : liesAt Tryd.prog Tryd.prog.depth 76 (2 / Tryd.prog.cellsOf 76) 0 76 1 = true := by kernel_rfl
theorem ownF_below {w w' : World} {base : Nat} {e : TypeId} {size n : Nat} {v : Value} {xs : List Value} (h : w.ownsRowF base e size v n xs) (hb : Below w.heap.size w w') : w'.ownsRowF base e size v n xs :=
  h.kept (row := none) ⟨hb.os, hb.tape, hb.output, hb.size, fun i hi _ => hb.block i hi⟩ (by cases v.ownBlock <;> simp)
/-- the builder at block b holds these bytes -/
def BldF (w : World) (B b : Nat) (xs : List Int) : Prop := Lib.IsBuilderF 76 5 B b (nums .u8 xs) w
theorem BldF.new (w : World) (B : Nat) (hB : B ≤ w.heap.size) : BldF (w.alloc (.cells #[.pointer none, .slice none 0 0] 76)) B w.heap.size [] :=
  Or.inl (Lib.BuilderAtF.of ⟨hB, .slice none 0 0, heap_alloc_new w _, own_nil _ _ _ _, by simp [Value.ownBlock]⟩)
theorem BldF.after {w w' : World} {B b : Nat} {xs : List Int} (h : BldF w B b xs) (hb : Below w.heap.size w w') : BldF w' B b xs := by
  have key : ∀ p, Lib.BuilderAtF 76 5 B b p (nums .u8 xs) w → Lib.BuilderAtF 76 5 B b p (nums .u8 xs) w' := fun p h => by
    have hlt := h.lt
    obtain ⟨hB, v, hv, ho, hne⟩ := h
    exact ⟨hB, v, (hb.block b hlt).trans hv, ownF_below ho hb, hne⟩
  rcases h with h | h
  · exact Or.inl (key _ h)
  · exact Or.inr (key _ h)
theorem BldF.lt {w : World} {B b : Nat} {xs : List Int} (h : BldF w B b xs) : b < w.heap.size := by
  rcases h with h | h <;> exact h.lt
set_option maxRecDepth 100000 in
theorem copyCheckF_any (B b : Nat) (xs : List Int) (w : World) (h : BldF w B b xs) :
    Calls Tryd.prog 76 #[.pointer (some ⟨b, 0, none⟩)] w fun e w' => e = .returned (.tuple #[]) ∧ Lib.BuilderAtF 76 5 B b (.pointer (some ⟨b, 0, none⟩)) (nums .u8 xs) w' ∧ Below B w w' ∧ KeepBut w w' b none := by
  obtain ⟨j, hj, hjs⟩ := Option.map_eq_some_iff.1 sizeBld
  rcases h with h | h
  · have h0 := h.cell0
    have hsh := h.shape
    have hfz := h.frozen0
    have H := Lib.hid h
    clear h
    go_enter Tryd.func76, Tryd.ntmps76
    go_wp2
    rw [Lib.run_to_unsafe w ⟨b, 0, none⟩ Tryd.underlying74 Tryd.underlying141 hj (by rw [hjs]; decide) hsh (Nat.zero_lt_succ 1)]
    simp only [Result.andThen]
    rw [Oper.upon_value]
    go_wp2
    rw [run_callFunc_extern Tryd.func98 (by kernel_rfl) (by kernel_rfl) (by kernel_rfl) (e := Extern.AbiNoEscape.same) (by kernel_rfl)]
    rw [Lib.run_noEscape]
    simp only [Result.andThen]
    rw [Oper.upon_value]
    go_wp2
    rw [Lib.run_from_unsafe w ⟨b, 0, none⟩ Tryd.underlying141 Tryd.underlying74 hj hsh liesBld]
    simp only [Result.andThen]
    rw [Oper.upon_value]
    go_wp2
    go_end0
    exact ⟨rfl, H.out.used _, (Below.refl B w).setCell (p := ⟨b, 0, none⟩) H.out.1 _, (KeepBut.refl _ _ _).set_ 0 _⟩
  · have h0 := h.cell0
    have H := Lib.hid h
    clear h
    go_enter Tryd.func76, Tryd.ntmps76
    go_wp2
    rw [Lib.run_neq_ptr_same w _ Tryd.underlying74 hj]
    go_wp2
    go_end0
    exact ⟨rfl, H.out, Below.refl B _, KeepBut.refl _ _ _⟩
theorem runeCells_enc (r : Int) (h : scal r = true) : Lib.runeCells r = nums .u8 (encB r) := by
  have hs := (scal_iff r).1 h
  unfold Lib.runeCells nums
  congr 1
  unfold encB
  by_cases c1 : r < 128
  · rw [if_pos c1, Lib.encodeRuneZ_one (by omega) (by omega)]
  · rw [if_neg c1]
    by_cases c2 : r < 2048
    · rw [if_pos c2, Lib.encodeRuneZ_two (by omega) (by omega)]
    · rw [if_neg c2]
      by_cases c3 : r < 65536
      · rw [if_pos c3, Lib.encodeRuneZ_three (by omega)]
      · rw [if_neg c3, Lib.encodeRuneZ_four (by omega) (by omega)]
theorem ownF_slice {w : World} {base n : Nat} {e : TypeId} {size : Nat} {v : Value} {xs : List Value} (h : w.ownsRowF base e size v n xs) : ∃ A c, v = .slice A n c := by
  rcases h.2 with ⟨rfl, rfl⟩ | ⟨g, cap, cur, fz, rfl, _⟩
  · exact ⟨none, 0, rfl⟩
  · exact ⟨_, cap, rfl⟩
/-- String of a builder -/
theorem stringF_any (B b : Nat) (xs : List Int) (w : World) (h : BldF w B b xs) (hr : ∀ x ∈ xs, 0 ≤ x ∧ x ≤ 255) (hBw : B ≤ w.heap.size) :
    Calls Tryd.prog 49 #[.pointer (some ⟨b, 0, none⟩)] w fun e w' => e = .returned (.string (strOfNums xs)) ∧ Below B w w' := by
  have e : Lib.byteCells (xs.map fun x => UInt8.ofNat x.toNat) = nums .u8 xs := by
    unfold Lib.byteCells nums
    rw [List.map_map]
    refine List.map_congr_left fun x hx => ?_
    have := hr x hx
    simp only [Function.comp_apply, Value.int.injEq, true_and]
    have e : (UInt8.ofNat x.toNat).toNat = x.toNat := by
      rw [UInt8.toNat_ofNat']
      omega
    rw [e]
    omega
  unfold BldF at h
  rw [← e] at h
  exact (Tryd.Builder_String_any_f B b _ w h hBw).mono fun e w' hh => ⟨hh.1, hh.2.2⟩
end Go.Proofs.YtfbgmlophkbejaaDoor

set_option linter.unusedVariables false
set_option linter.unusedSimpArgs false
namespace Go.Proofs.YtfbgmlophkbejaaDoor
open Go.RowKit Go.Proofs.YtfbgmlophkbejaaDoorW.PrintWords Go.Proofs.YtfbgmlophkbejaaDoorW.PrintLast
theorem Scalar_any (r : Int) (w : World) : Calls Tryd.prog 103 #[.int .i32 r] w fun e w' => e = .returned (.bool (scal r)) ∧ Below w.heap.size w w' := by
  have h := Tryd.utf8_ValidRune r w
  have e : Lib.validRune r = scal r := rfl
  rw [e] at h
  have H := Lib.hid h
  clear h
  go_enter Tryd.func103, Tryd.ntmps103
  go_wp2_with (go_at_call 120; (with_reducible refine (H.out).mono ?_); rintro e w1 ⟨rfl, hw⟩; obtain rfl : w = w1 := hw.symm)
  go_ret
  exact ⟨rfl, by first | exact Below.refl _ _ | exact below_drewN (Below.refl _ _) _⟩
theorem encL_len (l : List Int) : (encL l).length ≤ 4 * l.length := by
  induction l with
  | nil => simp [encL]
  | cons r l ih => rw [encL_cons, List.length_append, List.length_cons]; have := encB_len4 r; omega
theorem take_rd (l : List Int) (k : Nat) (h : k < l.length) : l.take (k + 1) = l.take k ++ [rd l k] := by
  rw [List.take_succ_eq_append_getElem h]
  simp [rd, List.getD_eq_getElem?_getD, List.getElem?_eq_getElem h]
end Go.Proofs.YtfbgmlophkbejaaDoor

set_option linter.unusedVariables false
set_option linter.unusedSimpArgs false
namespace Go.Proofs.YtfbgmlophkbejaaDoor
open Go.RowKit Go.Proofs.YtfbgmlophkbejaaDoorW.PrintWords Go.Proofs.YtfbgmlophkbejaaDoorW.PrintLast
theorem dec_awake : decT ⟨#[97, 226, 130]⟩ = [97, 65533] := by decide +kernel
theorem enc_awake : encS [8364] = ⟨#[226, 130, 172]⟩ := by decide +kernel
theorem cell_keep {w w' : World} {a : Addr} {v : Value} (h : w.cell? a = some v) (hb : Below w.heap.size w w') : w'.cell? a = some v :=
  (hb.cell (block_lt_of_cell h)).trans h
theorem cell_keep_alloc {w : World} {a : Addr} {v : Value} (h : w.cell? a = some v) (o : Obj) : (w.alloc o).cell? a = some v := cell_keep h (below_one w o)
theorem ReadsInt.cell_one {w : World} {k : IntKind} {ad : Addr} {n : Nat} {x y : Int} {l : List Int} (h : ReadsInt w k (some ad) n (x :: y :: l)) (hn : 1 < n) : w.cell? ⟨ad.block, ad.off + 1, none⟩ = some (.int k y) := by
  obtain ⟨ad', he, c⟩ := h.at_ 1 (by decide) (by omega)
  obtain rfl := Option.some.inj he
  rw [show (1 : Int).toNat = 0 + 1 from rfl, Addr.add_succ'] at c
  exact c
end Go.Proofs.YtfbgmlophkbejaaDoor

set_option linter.unusedVariables false
set_option linter.unusedSimpArgs false
namespace Go.Proofs.YtfbgmlophkbejaaDoor
open Go.RowKit Go.Proofs.YtfbgmlophkbejaaDoorW.PrintWords Go.Proofs.YtfbgmlophkbejaaDoorW.PrintLast
theorem runes_lit0 (w : World) : (w.alloc (.cells #[] 21)).ownsRow w.heap.size 21 1 (.slice (some ⟨w.heap.size, 0, none⟩) 0 0) 0 (nums .i32 []) := World.ownsRow_lit (base := w.heap.size) (e := 21) (size := 1) w #[] 0 (Nat.le_refl _) (by simp [maxLen]) rfl
theorem own_row_ge {α : Type} {R : α → List Value → Prop} {e : TypeId} {size base : Nat} {w : World} {v : Value} {ps : List α} (h : OwnRow R e size w base v ps) (k : Nat) (hk : v.ownBlock = some k) : base ≤ k := by
  obtain ⟨_, h, _⟩ := h
  rcases h.2 with ⟨rfl, _⟩ | ⟨g, cap, cur, rfl, hb, _⟩
  · simp [Value.ownBlock] at hk
  · simp [Value.ownBlock] at hk
    omega
theorem row_reads {α : Type} {R : α → List Value → Prop} {e : TypeId} {size base n c : Nat} {A : Option Addr} {w : World} {ps : List α} (h : OwnRow R e size w base (.slice A n c) ps) (hn : n = ps.length) : ReadsRow R size w A ps.length ps := by
  obtain ⟨A', c', he, _, hr⟩ := h.reads
  injection he with hA
  subst hA
  exact hr
set_option maxRecDepth 100000 in
set_option maxHeartbeats 4000000 in
theorem RDecode_any (s : ByteArray) (w : World) (hs : s.size * 24 + 24 ≤ 140737488351232) : Calls Tryd.prog 66 #[.string s] w (RPost 21 (decT s) w) := by
  have hp := fun W => RPieces_any s W hs
  have hn := pcs_len s s.size 0 (by omega) (by omega)
  unfold decT
  generalize pcs s 0 = l at *
  have Hp := Lib.hid hp
  clear hp
  have hlit := runes_lit0 w
  have hb0 := below_one w (.cells #[] 21)
  have hz0 : (w.alloc (.cells #[] 21)).heap.size = w.heap.size + 1 := size_alloc _ _
  go_enter Tryd.func66, Tryd.ntmps66
  go_wp2_with (go_at_call 92; (with_reducible refine (Hp.out _).mono ?_); rintro e w1 ⟨hb1, v, rfl, ho⟩; obtain ⟨A1, c1, rfl, hc1⟩ := ho.slice_)
  have hge := own_row_ge ho
  have hou := pw_own_below hlit hb1
  have hbel0 := below_after hb0 hb1
  clear hlit hb0
  go_loopw [3, 10] (fun u i wr => ∃ k : Nat, i = .int .i64 (k : Int) ∧ k ≤ l.length ∧ wr.ownsRow w.heap.size 21 1 u ((l.take k).map (·.2.rune)).length (nums .i32 ((l.take k).map (·.2.rune))) ∧ OwnRow PCell 135 4 wr w.heap.size (.slice A1 l.length c1) l ∧ ((Value.slice A1 l.length c1).ownBlock = none ∨ (Value.slice A1 l.length c1).ownBlock ≠ u.ownBlock) ∧ Below w.heap.size w wr) (fun _ i _ => l.length - (intOf i).toNat)
  case atStart => exact ⟨0, rfl, by omega, hou, ho.lower (by omega), Or.inr (fun e => by have g : (Value.slice A1 l.length c1).ownBlock = some w.heap.size := e; have := hge _ g; omega), hbel0⟩
  case round =>
    clear hou ho hbel0
    obtain ⟨k, rfl, hk, ho, hP, hne, hbel⟩ := hrel
    by_cases hlt : k < l.length
    · obtain ⟨ad, rfl, d0, d1, d2, d3⟩ := piece_at (row_reads hP rfl) k hlt
      have ht := take_rune l k hlt
      have hz : (l.take k).length ≤ k := List.length_take_le _ _
      have hsz := hbel.size
      generalize (l.getD k pc0).1 = x at *
      generalize (l.getD k pc0).2.size = x1 at *
      generalize (l.getD k pc0).2.rune = x2 at *
      generalize (l.getD k pc0).2.bad = x3 at *
      have Ht := Lib.hid ht
      clear ht
      have hPlt := own_row_lt hP
      have hP1 := fun o => hP.below (below_one wr o)
      go_wp2_with (at_builtin; (refine print_append_num (w0 := w) (W := wr.alloc (.cells #[.int .i64 x, .int .i64 x1, .int .i32 x2, .bool x3] 135)) w.heap.size rfl (.tmp 14) (.tmp 17) 107 21 .i32 4 rfl Tryd.underlying107 info_i32 (by decide) _ ((l.take k).map (·.2.rune)) x2 rfl (by rw [size_alloc]; rfl) (ho.alloc _) (below_alloc hbel _) (by rw [size_alloc]; omega) (by rw [List.length_map]; omega) ?_); intro v1 w2 ho2 hb2 hg2 hat2; rw [size_alloc] at hat2; have hP2 := (hP1 _).other hg2 hne)
      rw [← Ht.out] at ho2
      refine ⟨⟨k + 1, rfl, by omega, ho2, hP2, ?_, hb2⟩, by simp [intOf]; omega⟩
      rcases hne with h | h
      · exact Or.inl h
      · refine Or.inr fun e => ?_
        rcases hat2 with g | ⟨b, g, gb⟩
        · exact h (e.trans g)
        · have := hPlt b (e.trans g); omega
    · obtain rfl : k = l.length := by omega
      rw [List.take_length] at ho
      have Ho := Lib.hid ho
      clear ho
      go_wp2
      go_ret
      exact ⟨hbel, _, rfl, Ho.out⟩
end Go.Proofs.YtfbgmlophkbejaaDoor

set_option linter.unusedVariables false
set_option linter.unusedSimpArgs false
namespace Go.Proofs.YtfbgmlophkbejaaDoor
open Go.RowKit Go.Proofs.YtfbgmlophkbejaaDoorW.PrintWords Go.Proofs.YtfbgmlophkbejaaDoorW.PrintLast
/-! ### a slice of scalar values as a text -/
theorem utf8_enc (r : Int) (h : scal r = true) : Utf8.encode r = strOfNums (encB r) := by
  have hs := (scal_iff r).1 h
  have hv : Utf8.valid r = true := by unfold Utf8.valid; simp; omega
  unfold Utf8.encode encB strOfNums
  rw [if_pos hv]
  by_cases c1 : r < 128
  · rw [if_pos c1]
    simp only
    rw [if_pos (by omega)]
    rfl
  · rw [if_neg c1]
    by_cases c2 : r < 2048
    · rw [if_pos c2]
      simp only
      rw [if_neg (by omega), if_pos (by omega)]
      simp only [List.map_cons, List.map_nil]
      rw [show (192 + r / 64).toNat = 192 + r.toNat / 64 by omega, show (128 + r % 64).toNat = 128 + r.toNat % 64 by omega]
    · rw [if_neg c2]
      by_cases c3 : r < 65536
      · rw [if_pos c3]
        simp only
        rw [if_neg (by omega), if_neg (by omega), if_pos (by omega)]
        simp only [List.map_cons, List.map_nil]
        rw [show (224 + r / 4096).toNat = 224 + r.toNat / 4096 by omega, show (128 + r / 64 % 64).toNat = 128 + r.toNat / 64 % 64 by omega, show (128 + r % 64).toNat = 128 + r.toNat % 64 by omega]
      · rw [if_neg c3]
        simp only
        rw [if_neg (by omega), if_neg (by omega), if_neg (by omega)]
        simp only [List.map_cons, List.map_nil]
        rw [show (240 + r / 262144).toNat = 240 + r.toNat / 262144 by omega, show (128 + r / 4096 % 64).toNat = 128 + r.toNat / 4096 % 64 by omega, show (128 + r / 64 % 64).toNat = 128 + r.toNat / 64 % 64 by omega, show (128 + r % 64).toNat = 128 + r.toNat % 64 by omega]
theorem fold_enc (l : List Int) (h : ∀ r ∈ l, scal r = true) : ∀ xs : List Int, l.foldl (fun r n => r ++ Utf8.encode n) (strOfNums xs) = strOfNums (xs ++ encL l) := by
  induction l with
  | nil => intro xs; simp [encL]
  | cons r l ih =>
    intro xs
    rw [List.foldl_cons, utf8_enc r (h r (List.mem_cons_self ..)), strOfNums_append, ih (fun x hx => h x (List.mem_cons_of_mem _ hx)), encL_cons, List.append_assoc]
theorem runesBytes_enc (l : List Int) (h : ∀ r ∈ l, scal r = true) : runesBytes l = encS l := by
  have := fold_enc l h []
  rw [List.nil_append] at this
  exact this
theorem run_runes_text (l : List Int) (h : ∀ r ∈ l, scal r = true) (w : World) (A : Option Addr) (c : Nat) (hr : ReadsInt w .i32 A l.length l) : (convert 107 9 (.slice A l.length c)).run Tryd.prog w = .ok (.string (encS l)) w := by
  cases l with
  | nil =>
    cases A with
    | none => exact run_convert_runes_nil w 107 9 21 0 c Tryd.underlying107 Tryd.underlying21 Tryd.underlying9
    | some a => exact run_convert_runes w 107 9 21 a 0 c [] (by simp) Tryd.underlying107 Tryd.underlying21 Tryd.underlying9 (fun j hj => by simp at hj)
  | cons x l =>
    obtain ⟨ad, rfl, hc⟩ := hr.2.2 (by simp)
    have := run_convert_runes (P := Tryd.prog) w 107 9 21 ad (x :: l).length c (x :: l) (Nat.le_refl _) Tryd.underlying107 Tryd.underlying21 Tryd.underlying9 hc
    rw [List.take_length, runesBytes_enc _ h] at this
    exact this
set_option maxRecDepth 100000 in
set_option maxHeartbeats 1000000 in
theorem Clean_any (s : ByteArray) (w : World) (hs : s.size * 24 + 24 ≤ 140737488351232) (T : Tabs w) : Calls Tryd.prog 108 #[.string s] w fun e w' => e = .returned (.string (encS (decT s))) ∧ Below w.heap.size w w' := by
  have hd := Decode_any s w hs T
  have hsc := decT_scal s
  generalize decT s = l at *
  have Hd := Lib.hid hd
  have Hc := Lib.hid (fun w A c hr => run_runes_text l hsc w A c hr)
  clear hd hsc
  go_enter Tryd.func108, Tryd.ntmps108
  go_wp2_with (go_at_call 83; (with_reducible refine (Hd.out).mono ?_); rintro e w1 ⟨hb1, v, rfl, ho⟩; obtain ⟨A1, c1, rfl, hr⟩ := own_reads ho)
  rw [Hc.out _ _ _ hr]
  simp only [Result.andThen]
  rw [Oper.upon_value]
  go_wp2
  go_ret
  exact ⟨rfl, hb1⟩
theorem bad_ix (l : List Int) (h : ¬ l.all scal = true) : l.findIdx (fun r => !scal r) < l.length ∧ (∀ r ∈ l.take (l.findIdx (fun r => !scal r)), scal r = true) ∧ scal (rd l ((l.findIdx (fun r => !scal r) : Nat) : Int)) = false := by
  have hlt : l.findIdx (fun r => !scal r) < l.length := by
    rw [List.findIdx_lt_length]
    rcases scal_split l with hs | ⟨k, hk, _, hb⟩
    · exact absurd (List.all_eq_true.2 hs) h
    · refine ⟨l[k], List.getElem_mem _, ?_⟩
      have e : rd l k = l[k] := by simp [rd, List.getD_eq_getElem?_getD, List.getElem?_eq_getElem hk]
      rw [e] at hb
      simp [hb]
  refine ⟨hlt, fun r hr => ?_, ?_⟩
  · obtain ⟨i, hi, rfl⟩ := List.mem_iff_getElem.1 hr
    rw [List.length_take] at hi
    have := List.not_of_lt_findIdx (p := fun r => !scal r) (xs := l) (i := i) (by omega)
    rw [List.getElem_take]
    simpa using this
  · have := List.findIdx_getElem (p := fun r => !scal r) (xs := l) (w := hlt)
    simp only [rd, Int.toNat_natCast, List.getD_eq_getElem?_getD, List.getElem?_eq_getElem hlt, Option.getD_some]
    simpa using this
end Go.Proofs.YtfbgmlophkbejaaDoor

set_option linter.unusedVariables false
set_option linter.unusedSimpArgs false
namespace Go.Proofs.YtfbgmlophkbejaaDoor
open Go.RowKit Go.Proofs.YtfbgmlophkbejaaDoorW.PrintWords Go.Proofs.YtfbgmlophkbejaaDoorW.PrintLast
theorem reps_map {α β : Type} {R : α → List Value → Prop} {R' : β → List Value → Prop} {size : Nat} {ps : List α} {cs : List Value} (f : α → β) (hf : ∀ p c, R p c → R' (f p) c) (h : Reps R size ps cs) : Reps R' size (ps.map f) cs := by
  refine ⟨by rw [List.length_map]; exact h.1, fun j q hq => ?_⟩
  rw [List.getElem?_map] at hq
  obtain ⟨p, hp, rfl⟩ := Option.map_eq_some_iff.1 hq
  exact hf _ _ (h.2 j p hp)
theorem own_row_map {α β : Type} {R : α → List Value → Prop} {R' : β → List Value → Prop} {e : TypeId} {size base : Nat} {w : World} {v : Value} {ps : List α} (f : α → β) (hf : ∀ p c, R p c → R' (f p) c) (h : OwnRow R e size w base v ps) : OwnRow R' e size w base v (ps.map f) := by
  obtain ⟨inner, h1, h2⟩ := h
  exact ⟨inner, by rw [List.length_map]; exact h1, reps_map f hf h2⟩
theorem R_of_nums {k : IntKind} {e : TypeId} {base : Nat} {w : World} {v : Value} {l : List Int} (h : w.ownsRow base e 1 v l.length (nums k l)) : Kd.R (Kd.int k) e w base (fun _ => True) v l := Kd.R_of_own h (fun _ _ => trivial)
theorem ints_of_C {k : IntKind} {w : World} {A : Option Addr} {n : Nat} {l : List Int} (h : Kd.C (Kd.int k) w A n l) : ReadsInt w k A n l := Kd.reads_of_C (enc := Value.int k) (d := (0 : Int)) (h1 := fun _ => rfl) h
theorem C_of_ints {k : IntKind} {w : World} {A : Option Addr} {n : Nat} {l : List Int} (h : ReadsInt w k A n l) : Kd.C (Kd.int k) w A n l := Kd.C_of_reads (enc := Value.int k) (d := (0 : Int)) (h1 := fun _ => rfl) h
theorem R_of_rpost {T : TypeId} {l : List Int} {w w' : World} {e : Ending} (h : RPost T l w e w') : ∃ v0_ : Value, e = .returned v0_ ∧ Kd.R (Kd.int .i32) T w' w.heap.size (fun _ => True) v0_ l ∧ Below w.heap.size w w' := by
  obtain ⟨hb, v, rfl, ho⟩ := h
  exact ⟨v, rfl, R_of_nums ho, hb⟩
end Go.Proofs.YtfbgmlophkbejaaDoor
