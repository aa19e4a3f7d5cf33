/- ScalarTwo: the walk. -/
import Derived.Test.YtgippjhkimohlaaDoorFedW
set_option linter.unusedVariables false
set_option linter.unusedSimpArgs false
namespace Go.Proofs.YtgippjhkimohlaaDoor
open Go.RowKit Go.Proofs.YtgippjhkimohlaaDoorW.PrintWords Go.Proofs.YtgippjhkimohlaaDoorW.PrintLast
theorem own_keep {w W : World} {base g n : Nat} {e : TypeId} {v : Value} {l : List Int} (ho : w.ownsRow base e 1 v n (nums .i32 l)) (hg : g < base) (hk : KeepBut w W g none) : W.ownsRow base e 1 v n (nums .i32 l) :=
  own_move ho (fun q hq => hk.2 q (own_lt ho q hq) (by have := own_base ho q hq; omega) (by simp))
theorem own_other {w W : World} {base n : Nat} {e : TypeId} {v : Value} {l : List Int} {row : Option Nat} (ho : w.ownsRow base e 1 v n (nums .i32 l)) (hg : w.grownBy W row) (hne : ∀ q, v.ownBlock = some q → some q ≠ row) : W.ownsRow base e 1 v n (nums .i32 l) :=
  own_move ho (fun q hq => hg.block q (own_lt ho q hq) (hne q hq))
/-- a decoder at g, fed k texts; what it told stands in a row of the call's own -/
def TwoAt (l : List ByteArray) (B g k : Nat) (X : List Int) (v : Value) (W : World) : Prop :=
  ∃ (L : List (Int × Pc)) (e : Int), Sur (catS l k) L e ∧ X = L.map (·.2.rune) ∧ Blk W g 102 #[.string (tail (catS l k) e)] ∧ W.ownsRow B 21 1 v X.length (nums .i32 X)
theorem TwoAt.keep {l : List ByteArray} {B g k : Nat} {X : List Int} {v : Value} {W W' : World} {h : Nat} (t : TwoAt l B g k X v W) (hk : KeepBut W W' h none) (hne : g ≠ h) (hB : h < B) : TwoAt l B g k X v W' := by
  obtain ⟨L, e, h1, h2, h3, h4⟩ := t
  exact ⟨L, e, h1, h2, (hk.2 g h3.lt hne (by simp)).trans h3, own_keep h4 hB hk⟩
theorem TwoAt.other {l : List ByteArray} {B g k : Nat} {X : List Int} {v : Value} {W W' : World} {row : Option Nat} (t : TwoAt l B g k X v W) (hg : W.grownBy W' row) (h1 : some g ≠ row) (h2 : ∀ q, v.ownBlock = some q → some q ≠ row) : TwoAt l B g k X v W' := by
  obtain ⟨L, e, h3, h4, h5, h6⟩ := t
  exact ⟨L, e, h3, h4, h5.grown hg h1, own_other h6 hg h2⟩
theorem catS_all (l : List ByteArray) (k : Nat) (h : l.length ≤ k) : catS l k = catS l l.length := by
  unfold catS
  rw [List.take_of_length_le h, List.take_length]
theorem TwoAt.stay {l : List ByteArray} {B g k : Nat} {X : List Int} {v : Value} {W : World} (t : TwoAt l B g k X v W) (h : l.length ≤ k) : TwoAt l B g (k + 1) X v W := by
  obtain ⟨L, e, h3, h4, h5, h6⟩ := t
  have e1 : catS l (k + 1) = catS l k := by rw [catS_all l k h, catS_all l (k + 1) (by omega)]
  exact ⟨L, e, e1 ▸ h3, h4, e1 ▸ h5, h6⟩
theorem TwoAt.row {l : List ByteArray} {B g k : Nat} {X : List Int} {v : Value} {W : World} (t : TwoAt l B g k X v W) : W.ownsRow B 21 1 v X.length (nums .i32 X) ∧ X.length ≤ (catS l k).size ∧ g < W.heap.size := by
  obtain ⟨L, e, h3, h4, h5, h6⟩ := t
  refine ⟨h6, ?_, h5.lt⟩
  have h7 := pcs_len (catS l k) (catS l k).size 0 (by omega) (by omega)
  have h8 := congrArg List.length (h3.path.pcs_eq (by omega))
  rw [List.length_append] at h8
  rw [h4, List.length_map]
  omega
/-- a text more -/
theorem two_call (l : List ByteArray) (w0 : World) (B g k : Nat) (X : List Int) (v : Value) (W0 : World) (hlt : k < l.length) (hs : sizeS l ≤ 1048576) (hg : w0.heap.size ≤ g) (T : Tabs w0) (t : TwoAt l B g k X v W0) :
    ∃ (s : ByteArray) (Z : List Int), Blk W0 g 102 #[.string s] ∧ Z.length ≤ 1048576 ∧ (catS l k).size + (l.getD k ByteArray.empty).size ≤ 1048576 ∧ catS l k ++ l.getD k ByteArray.empty = catS l (k + 1) ∧
      (∀ W, Blk W g 102 #[.string s] → Below w0.heap.size w0 W → Calls Tryd.prog 39 #[.pointer (some ⟨g, 0, none⟩), .string (l.getD k ByteArray.empty)] W fun e w' => ∃ (v : Value) (s' : ByteArray), e = .returned v ∧ Kd.R (Kd.int .i32) 21 w' W.heap.size (fun _ => True) v Z ∧ Blk w' g 102 #[.string s'] ∧ Below w0.heap.size w0 w' ∧ KeepBut W w' g none ∧
        (∀ W2 v2, Blk W2 g 102 #[.string s'] → W2.ownsRow B 21 1 v2 (X ++ Z).length (nums .i32 (X ++ Z)) → TwoAt l B g (k + 1) (X ++ Z) v2 W2)) := by
  obtain ⟨L, e, h1, h2, h3, h4⟩ := t
  have hsu := catS_succ l k hlt
  have hz := catS_size l (k + 1)
  obtain ⟨L', e', Z, g1, g2, g3, g4, g5, g6, g7⟩ := fed_step (catS l k) (l.getD k ByteArray.empty) L e h1 (by rw [← hsu]; omega) g w0 T hg
  have hza : (catS l k ++ l.getD k ByteArray.empty).size = (catS l k).size + (l.getD k ByteArray.empty).size := ByteArray.size_append
  rw [← hsu] at hza g4
  refine ⟨_, Z, h3, by rw [← g2, List.length_drop, List.length_map]; omega, by omega, hsu.symm, fun W hW hL => (g7 W hW hL).mono ?_⟩
  rintro x w' ⟨v', rfl, a1, a2, a3, a4⟩
  refine ⟨v', _, rfl, a1, a2, a3, a4, fun W2 v2 b1 b2 => ⟨L', e', by rw [hsu]; exact g1, ?_, by rw [hsu]; exact b1, b2⟩⟩
  rw [h2, ← g2]
  have h5 := g1.dec.2
  have h6 : L.map (·.2.rune) = (L'.map (·.2.rune)).take L.length := by
    obtain ⟨l2, e2, q1, q2, q3⟩ := Feed_is (tail (catS l k) e) (l.getD k ByteArray.empty) (by have hta := tail_size (catS l k) e h1.pos h1.le; have : (tail (catS l k) e ++ l.getD k ByteArray.empty).size = (tail (catS l k) e).size + (l.getD k ByteArray.empty).size := ByteArray.size_append; have := h1.pos; omega) _ (Nat.lt_succ_self _)
    obtain ⟨q4, q5⟩ := h1.grow q1
    have q6 := sur_uniq g1 q4
    rw [q6.1, List.map_append, show L.length = (L.map (·.2.rune)).length by rw [List.length_map], List.take_left]
  rw [h6, List.take_append_drop]
theorem two_end (l : List ByteArray) (w0 : World) (B g k : Nat) (X : List Int) (v : Value) (W0 : World) (hge : l.length ≤ k) (hs : sizeS l ≤ 1048576) (hg : w0.heap.size ≤ g) (t : TwoAt l B g k X v W0) :
    ∃ (s : ByteArray) (Z : List Int), Blk W0 g 102 #[.string s] ∧ X ++ Z = decT (catS l k) ∧ Z.length ≤ 1 ∧
      (∀ W, Blk W g 102 #[.string s] → Below w0.heap.size w0 W → Calls Tryd.prog 40 #[.pointer (some ⟨g, 0, none⟩)] W fun e w' => ∃ (v : Value), e = .returned v ∧ Kd.R (Kd.int .i32) 21 w' W.heap.size (fun _ => True) v Z ∧ Blk w' g 102 #[.string (⟨#[]⟩ : ByteArray)] ∧ Below w0.heap.size w0 w' ∧ KeepBut W w' g none) := by
  obtain ⟨L, e, h1, h2, h3, h4⟩ := t
  refine ⟨_, _, h3, ?_, ?_, fun W hW hL => end_call (catS l k) L e h1 g w0 W hW hL hg⟩
  · rw [h2]; exact h1.dec.2.symm
  · split <;> simp
def Dist (a b : Value) : Prop := ∀ q, a.ownBlock = some q → b.ownBlock ≠ some q
theorem Dist.symm {a b : Value} (h : Dist a b) : Dist b a := fun q hq e => h q e hq
theorem Dist.grown {a a1 b : Value} {W : World} {base n : Nat} {e : TypeId} {l : List Int} (h : Dist a b) (hat : a1.ownBlock = a.ownBlock ∨ ∃ q, a1.ownBlock = some q ∧ W.heap.size ≤ q) (hb : W.ownsRow base e 1 b n (nums .i32 l)) : Dist a1 b := by
  intro q hq hbq
  rcases hat with g | ⟨q2, g, hle⟩
  · exact h q (g ▸ hq) hbq
  · rw [g] at hq
    obtain rfl := Option.some.inj hq
    have := own_lt hb _ hbq
    omega
theorem Dist.row {a b : Value} (h : Dist a b) : ∀ q, b.ownBlock = some q → some q ≠ a.ownBlock := fun q hq e => h q e.symm hq
theorem far_blk {W : World} {base n g : Nat} {e : TypeId} {v : Value} {l : List Int} (ho : W.ownsRow base e 1 v n (nums .i32 l)) (hg : g < base) : some g ≠ v.ownBlock := fun e => by have := own_base ho g e.symm; omega
theorem keep_blk {W W' : World} {g h : Nat} {t : TypeId} {cs : Array Value} (hb : Blk W g t cs) (hk : KeepBut W W' h none) (hne : g ≠ h) : Blk W' g t cs := (hk.2 g hb.lt hne (by simp)).trans hb
theorem below_app {w0 W W1 : World} {B : Nat} (h : Below w0.heap.size w0 W) (hb : Below B W W1) (hB : w0.heap.size ≤ B) : Below w0.heap.size w0 W1 := h.trans ⟨hb.os, hb.tape, hb.output, hb.size, fun i hi => hb.block i (Nat.lt_of_lt_of_le hi hB)⟩
theorem below_after' {w W W1 : World} (h : Below w.heap.size w W) (k : Below W.heap.size W W1) : Below w.heap.size w W1 := below_after h k
theorem str_at {W : World} {A : Addr} {n : Nat} {l : List ByteArray} (h : ReadsOf Value.string ByteArray.empty W (some A) n l) (k : Nat) (hk : k < n) : W.cell? (A.add k) = some (.string (l.getD k ByteArray.empty)) := by
  obtain ⟨ad, e, c⟩ := h.at_ k (by omega) (by omega)
  obtain rfl := Option.some.inj e
  simpa only [rdOf, Int.toNat_natCast] using c
set_option maxRecDepth 100000 in
set_option maxHeartbeats 4000000 in
theorem scalarTwo_any (l m : List ByteArray) (Ap Bp : Option Addr) (cp dp : Nat) (w : World) (hR : ReadsOf Value.string ByteArray.empty w Ap l.length l) (hQ : ReadsOf Value.string ByteArray.empty w Bp m.length m) (hs : sizeS l ≤ 1048576) (hn : l.length ≤ 1048576) (hs2 : sizeS m ≤ 1048576) (hn2 : m.length ≤ 1048576) (T : Tabs w) :
    Calls Tryd.prog 9 #[.slice Ap l.length cp, .slice Bp m.length dp] w fun e w' => e = .returned (.bool true) ∧ Below w.heap.size w w' := by
  have Haw := Lib.hid (fun W (h : Below w.heap.size w W) => awake_any W (Utf8Tabs_below T h))
  have HR := Lib.hid hR
  have HQ := Lib.hid hQ
  clear hR hQ
  have hbel := below_alloc (below_one w (.cells #[.string ByteArray.empty] 102)) (.cells #[.string ByteArray.empty] 102)
  go_enter Tryd.func9, Tryd.ntmps9
  go_wp2_with (first
    | (go_at_call 38; (with_reducible refine (NewDecoder_any _).mono ?_); rintro e w1 ⟨rfl, rfl⟩)
    | (go_at_call 17; (with_reducible refine (Haw.out _ hbel).mono ?_); rintro e w2 ⟨rfl, hb2⟩))
  have hB1 : Blk w2 w.heap.size 102 #[.string ByteArray.empty] := ((Blk.new _ _ _).alloc _).after hb2
  have hB2 : Blk w2 (w.heap.size + 1) 102 #[.string ByteArray.empty] := (Blk.at_new (by simp)).after hb2
  have hL0 : Below w.heap.size w w2 := below_after hbel hb2
  have hlt2 := hB2.lt
  clear hb2 hbel
  obtain ⟨g, hg⟩ : ∃ g, w.heap.size = g := ⟨_, rfl⟩
  have Hg := Lib.hid hg
  have hgle : w.heap.size ≤ g := by omega
  rw [hg] at hB1 hB2 hlt2
  simp only [hg]
  clear hg
  obtain ⟨B, hB⟩ : ∃ B, w2.heap.size = B := ⟨_, rfl⟩
  have hgB : g < B := by omega
  have hgB1 : g + 1 < B := by omega
  have hwB : w.heap.size ≤ B := by omega
  have hst : ∀ l : List ByteArray, ∀ h, Blk w2 h 102 #[.string ByteArray.empty] → Hid (TwoAt l B h 0 [] (.slice none 0 0) w2) := fun l h hb => Lib.hid ⟨[], 0, ⟨.nil 0, fun p hp => (by cases hp), by omega, Or.inl rfl⟩, rfl, hb, own_nil _ _ _ _⟩
  have h1st := hst l g hB1
  have h2st := hst m (g + 1) hB2
  clear hst hB1 hB2
  go_loopw [7, 8, 9, 10, 11] (fun a b c d i wr => ∃ (k : Nat) (X Y : List Int), i = .int .i64 (k : Int) ∧ (k ≤ l.length ∨ k ≤ m.length) ∧ c = .string (catS l k) ∧ d = .string (catS m k) ∧ Hid (TwoAt l B g k X a wr) ∧ Hid (TwoAt m B (g + 1) k Y b wr) ∧ Hid (Dist a b) ∧ Below w.heap.size w wr ∧ B ≤ wr.heap.size) (fun _ _ _ _ i _ => l.length + m.length - (intOf i).toNat)
  case atStart => exact ⟨0, [], [], rfl, by omega, rfl, rfl, h1st, h2st, Lib.hid (fun q hq => by simp [Value.ownBlock] at hq), hL0, by omega⟩
  case round =>
    clear h1st h2st hL0 hB
    obtain ⟨k, X, Y, rfl, hk, rfl, rfl, hX, hY, hD, hL, hBw⟩ := hrel
    have hzl := catS_size l k
    have hzm := catS_size m k
    obtain ⟨ox, oxl, -⟩ := hX.out.row
    obtain ⟨oy, oyl, -⟩ := hY.out.row
    have Hl := Lib.hid (fun W (h : Below w.heap.size w W) => HR.out.below h)
    have Hm := Lib.hid (fun W (h : Below w.heap.size w W) => HQ.out.below h)
    by_cases h1 : k < l.length
    · obtain ⟨s1, Z1, c1, z1, z1', a1, f1⟩ := two_call l w B g k X u7 wr h1 hs hgle T hX.out
      obtain ⟨ad, rfl, e0⟩ := (HR.out.below hL).at_ k (by omega) (by omega)
      simp only [rdOf, Int.toNat_natCast] at e0
      have He0 := Lib.hid (fun W (h : Below w.heap.size w W) => str_at (HR.out.below h) k h1)
      generalize l.getD k ByteArray.empty = t1 at *
      have F1 := Lib.hid f1
      have A1' := Lib.hid a1
      clear f1 a1
      by_cases h2 : k < m.length
      · obtain ⟨s2, Z2, c2, z2, z2', a2, f2⟩ := two_call m w B (g + 1) k Y u8 wr h2 hs2 (by omega) T hY.out
        obtain ⟨bd, rfl, -⟩ := (HQ.out.below hL).at_ k (by omega) (by omega)
        have Hd0 := Lib.hid (fun W (h : Below w.heap.size w W) => str_at (HQ.out.below h) k h2)
        generalize m.getD k ByteArray.empty = t2 at *
        have F2 := Lib.hid f2
        have A2' := Lib.hid a2
        have HX := hX
        have HY := hY
        clear f2 a2 hX hY
        go_upto_region 13 with (first
          | (go_at_call 39; (with_reducible refine (F1.out _ c1 hL).mono ?_); rintro e w1 ⟨v1, s1', rfl, hZ1, hC1, hL1, hk1, hfin1⟩; obtain ⟨P1, q1, rfl, hq1, hr1⟩ := Kd.R_reads hZ1; have ox1 := own_keep ox hgB hk1; have oy1 := own_keep oy hgB hk1; have d1 := keep_blk c2 hk1 (by omega); have hs1 := keep_size hk1; have K1 := Lib.hid hk1; have Fin1 := Lib.hid hfin1; clear hk1 hfin1)
          | (at_builtin; refine print_append_row (w0 := w1) (W := w1) B rfl (.tmp 40) (.tmp 46) 24 21 .i32 4 rfl Tryd.underlying24 info_i32 (by decide) _ X Z1 P1 Z1.length q1 rfl rfl ox1 (Kd.reads_of_C (enc := Value.int .i32) (d := (0 : Int)) (h1 := fun _ => rfl) hr1) (Below.refl _ _) (by omega) (by omega) ?_; intro va w2 ox2 hb2 hg2 hat2; have hC2 := hC1.grown hg2 (far_blk ox1 hgB); have d2 := d1.grown hg2 (far_blk ox1 hgB1); have oy2 := own_other oy1 hg2 hD.out.row; have hD2 := hD.out.grown hat2 oy1; have hL2 := below_app hL1 hb2 hwB; have hs2' := hb2.size; have e2 := He0.out _ hL2; have dd2 := Hd0.out _ hL2; have G2 := Lib.hid hg2; have At2 := Lib.hid hat2; clear hg2 hat2))
        go_upto_region 14 with (first
          | (go_at_call 39; (with_reducible refine (F2.out _ d2 hL2).mono ?_); rintro e w3 ⟨v3, s3', rfl, hZ3, hC3, hL3, hk3, hfin3⟩; obtain ⟨P3, q3, rfl, hq3, hr3⟩ := Kd.R_reads hZ3; have ox3 := own_keep ox2 hgB1 hk3; have oy3 := own_keep oy2 hgB1 hk3; have hC4 := keep_blk hC2 hk3 (by omega); have hs3' := keep_size hk3; have K3 := Lib.hid hk3; have Fin3 := Lib.hid hfin3; clear hk3 hfin3)
          | (at_builtin; refine print_append_row (w0 := w3) (W := w3) B rfl (.tmp 58) (.tmp 64) 24 21 .i32 4 rfl Tryd.underlying24 info_i32 (by decide) _ Y Z2 P3 Z2.length q3 rfl rfl oy3 (Kd.reads_of_C (enc := Value.int .i32) (d := (0 : Int)) (h1 := fun _ => rfl) hr3) (Below.refl _ _) (by omega) (by omega) ?_; intro vb w4 oy4 hb4 hg4 hat4; have hC5 := hC4.grown hg4 (far_blk oy3 hgB); have d5 := hC3.grown hg4 (far_blk oy3 hgB1); have ox4 := own_other ox3 hg4 hD2.symm.row; have hD4 := (hD2.symm.grown hat4 ox3).symm; have hL4 := below_app hL3 hb4 hwB; have hs4' := hb4.size; have dd4 := Hd0.out _ hL4; have G4 := Lib.hid hg4; have At4 := Lib.hid hat4; clear hg4 hat4))
        go_wp2
        exact ⟨⟨k + 1, _, _, rfl, by omega, by rw [A1'.out], by rw [A2'.out], Lib.hid (Fin1.out _ _ hC5 ox4), Lib.hid (Fin3.out _ _ d5 oy4), Lib.hid hD4, hL4, by omega⟩, by simp [intOf]; omega⟩
      · have HY := hY
        clear hX hY
        go_upto_region 11 with (first
          | (go_at_call 39; (with_reducible refine (F1.out _ c1 hL).mono ?_); rintro e w1 ⟨v1, s1', rfl, hZ1, hC1, hL1, hk1, hfin1⟩; obtain ⟨P1, q1, rfl, hq1, hr1⟩ := Kd.R_reads hZ1; have ox1 := own_keep ox hgB hk1; have oy1 := own_keep oy hgB hk1; have HY1 := Lib.hid (HY.out.keep hk1 (by omega) hgB); have hs1 := keep_size hk1; have K1 := Lib.hid hk1; have Fin1 := Lib.hid hfin1; clear hk1 hfin1)
          | (at_builtin; refine print_append_row (w0 := w1) (W := w1) B rfl (.tmp 40) (.tmp 46) 24 21 .i32 4 rfl Tryd.underlying24 info_i32 (by decide) _ X Z1 P1 Z1.length q1 rfl rfl ox1 (Kd.reads_of_C (enc := Value.int .i32) (d := (0 : Int)) (h1 := fun _ => rfl) hr1) (Below.refl _ _) (by omega) (by omega) ?_; intro va w2 ox2 hb2 hg2 hat2; have hC2 := hC1.grown hg2 (far_blk ox1 hgB); have HY2 := Lib.hid ((HY1.out.other hg2 (far_blk ox1 hgB1) hD.out.row).stay (by omega)); have oy2 := own_other oy1 hg2 hD.out.row; have hD2 := hD.out.grown hat2 oy1; have hL2 := below_app hL1 hb2 hwB; have hs2' := hb2.size; have e2 := He0.out _ hL2; have G2 := Lib.hid hg2; have At2 := Lib.hid hat2; clear hg2 hat2))
        have hcm : catS m (k + 1) = catS m k := by rw [catS_all m k (by omega), catS_all m (k + 1) (by omega)]
        have Hcm := Lib.hid hcm
        clear hcm
        go_wp2
        exact ⟨⟨k + 1, _, _, rfl, by omega, by rw [A1'.out], by rw [Hcm.out], Lib.hid (Fin1.out _ _ hC2 ox2), HY2, Lib.hid hD2, hL2, by omega⟩, by simp [intOf]; omega⟩
    · by_cases h2 : k < m.length
      · obtain ⟨s2, Z2, c2, z2, z2', a2, f2⟩ := two_call m w B (g + 1) k Y u8 wr h2 hs2 (by omega) T hY.out
        obtain ⟨bd, rfl, e0⟩ := (HQ.out.below hL).at_ k (by omega) (by omega)
        simp only [rdOf, Int.toNat_natCast] at e0
        have Hd0 := Lib.hid (fun W (h : Below w.heap.size w W) => str_at (HQ.out.below h) k h2)
        generalize m.getD k ByteArray.empty = t2 at *
        have F2 := Lib.hid f2
        have A2' := Lib.hid a2
        have HX := hX
        clear f2 a2 hX hY
        go_upto_region 14 with (first
          | (go_at_call 39; (with_reducible refine (F2.out _ c2 hL).mono ?_); rintro e w3 ⟨v3, s3', rfl, hZ3, hC3, hL3, hk3, hfin3⟩; obtain ⟨P3, q3, rfl, hq3, hr3⟩ := Kd.R_reads hZ3; have ox3 := own_keep ox hgB1 hk3; have oy3 := own_keep oy hgB1 hk3; have HX3 := Lib.hid (HX.out.keep hk3 (by omega) hgB1); have hs3' := keep_size hk3; have K3 := Lib.hid hk3; have Fin3 := Lib.hid hfin3; clear hk3 hfin3)
          | (at_builtin; refine print_append_row (w0 := w3) (W := w3) B rfl (.tmp 58) (.tmp 64) 24 21 .i32 4 rfl Tryd.underlying24 info_i32 (by decide) _ Y Z2 P3 Z2.length q3 rfl rfl oy3 (Kd.reads_of_C (enc := Value.int .i32) (d := (0 : Int)) (h1 := fun _ => rfl) hr3) (Below.refl _ _) (by omega) (by omega) ?_; intro vb w4 oy4 hb4 hg4 hat4; have HX4 := Lib.hid ((HX3.out.other hg4 (far_blk oy3 hgB) hD.out.symm.row).stay (by omega)); have d5 := hC3.grown hg4 (far_blk oy3 hgB1); have ox4 := own_other ox3 hg4 hD.out.symm.row; have hD4 := (hD.out.symm.grown hat4 ox3).symm; have hL4 := below_app hL3 hb4 hwB; have hs4' := hb4.size; have dd4 := Hd0.out _ hL4; have G4 := Lib.hid hg4; have At4 := Lib.hid hat4; clear hg4 hat4))
        have hcl : catS l (k + 1) = catS l k := by rw [catS_all l k (by omega), catS_all l (k + 1) (by omega)]
        have Hcl := Lib.hid hcl
        clear hcl
        go_wp2
        exact ⟨⟨k + 1, _, _, rfl, by omega, by rw [Hcl.out], by rw [A2'.out], HX4, Lib.hid (Fin3.out _ _ d5 oy4), Lib.hid hD4, hL4, by omega⟩, by simp [intOf]; omega⟩
      · obtain ⟨s1, Z1, c1, x1, z1, f1⟩ := two_end l w B g k X u7 wr (by omega) hs hgle hX.out
        obtain ⟨s2, Z2, c2, x2, z2, f2⟩ := two_end m w B (g + 1) k Y u8 wr (by omega) hs2 (by omega) hY.out
        have q1 := fun W (h : Below w.heap.size w W) => Decode_any (catS l k) W (by omega) (Utf8Tabs_below T h)
        have q2 := fun W (h : Below w.heap.size w W) => Decode_any (catS m k) W (by omega) (Utf8Tabs_below T h)
        rw [← x1] at q1
        rw [← x2] at q2
        have Q1 := Lib.hid q1
        have Q2 := Lib.hid q2
        have F1 := Lib.hid f1
        have F2 := Lib.hid f2
        clear q1 q2 f1 f2 x1 x2 hX hY
        go_upto_region 16 with (first
          | (go_at_call 40; (with_reducible refine (F1.out _ c1 hL).mono ?_); rintro e w1 ⟨v1, rfl, hZ1, hC1, hL1, hk1⟩; obtain ⟨P1, q1, rfl, hq1, hr1⟩ := Kd.R_reads hZ1; have ox1 := own_keep ox hgB hk1; have oy1 := own_keep oy hgB hk1; have d1 := keep_blk c2 hk1 (by omega); have hs1 := keep_size hk1; have K1 := Lib.hid hk1; clear hk1)
          | (at_builtin; refine print_append_row (w0 := w1) (W := w1) B rfl (.tmp 72) (.tmp 74) 24 21 .i32 4 rfl Tryd.underlying24 info_i32 (by decide) _ X Z1 P1 Z1.length q1 rfl rfl ox1 (Kd.reads_of_C (enc := Value.int .i32) (d := (0 : Int)) (h1 := fun _ => rfl) hr1) (Below.refl _ _) (by omega) (by omega) ?_; intro va w2 ox2 hb2 hg2 hat2; have hC2 := hC1.grown hg2 (far_blk ox1 hgB); have d2 := d1.grown hg2 (far_blk ox1 hgB1); have oy2 := own_other oy1 hg2 hD.out.row; have hD2 := hD.out.grown hat2 oy1; have hL2 := below_app hL1 hb2 hwB; have hs2' := hb2.size; have G2 := Lib.hid hg2; have At2 := Lib.hid hat2; clear hg2 hat2)
          | (go_at_call 40; (with_reducible refine (F2.out _ d2 hL2).mono ?_); rintro e w3 ⟨v3, rfl, hZ3, hC3, hL3, hk3⟩; obtain ⟨P3, q3, rfl, hq3, hr3⟩ := Kd.R_reads hZ3; have ox3 := own_keep ox2 hgB1 hk3; have oy3 := own_keep oy2 hgB1 hk3; have hC4 := keep_blk hC2 hk3 (by omega); have hs3' := keep_size hk3; have K3 := Lib.hid hk3; clear hk3)
          | (at_builtin; refine print_append_row (w0 := w3) (W := w3) B rfl (.tmp 76) (.tmp 78) 24 21 .i32 4 rfl Tryd.underlying24 info_i32 (by decide) _ Y Z2 P3 Z2.length q3 rfl rfl oy3 (Kd.reads_of_C (enc := Value.int .i32) (d := (0 : Int)) (h1 := fun _ => rfl) hr3) (Below.refl _ _) (by omega) (by omega) ?_; intro vb w4 oy4 hb4 hg4 hat4; have hC5 := hC4.grown hg4 (far_blk oy3 hgB); have d5 := hC3.grown hg4 (far_blk oy3 hgB1); have ox4 := own_other ox3 hg4 hD2.symm.row; have hD4 := (hD2.symm.grown hat4 ox3).symm; have hL4 := below_app hL3 hb4 hwB; have hs4' := hb4.size; have G4 := Lib.hid hg4; have At4 := Lib.hid hat4; clear hg4 hat4))
        have S1 := Lib.hid (fun A B ca cb W => runes_same (X ++ Z1) A B ca cb W)
        have S2 := Lib.hid (fun A B ca cb W => runes_same (Y ++ Z2) A B ca cb W)
        generalize X ++ Z1 = XX at *
        generalize Y ++ Z2 = YY at *
        obtain ⟨Aa, ca, rfl, hra⟩ := own_reads ox4
        obtain ⟨Ab, cb, rfl, hrb⟩ := own_reads oy4
        clear ox4 oy4 ox3 oy3 ox2 oy2 ox1 oy1 ox oy hD hD2 hD4
        go_wp2_with (first
          | (go_at_call 19; (with_reducible refine (Q1.out _ hL4).mono ?_); rintro e w5 ⟨hb5, v5, rfl, ho5⟩; obtain ⟨A5, c5, rfl, hr5⟩ := own_reads ho5; have hra5 := (fun h => ReadsInt.below h hb5) hra; have hrb5 := (fun h => ReadsInt.below h hb5) hrb; have hL5 := below_after' hL4 hb5)
          | (go_at_call 18; (with_reducible refine (S1.out _ _ _ _ _ hra5 hr5).mono ?_); rintro e w6 ⟨rfl, n6, rfl⟩; have hL6 := below_drewN hL5 n6; have hrb6 := (fun h => ReadsInt.drewN h n6) hrb5)
          | (go_at_call 19; (with_reducible refine (Q2.out _ hL6).mono ?_); rintro e w7 ⟨hb7, v7, rfl, ho7⟩; obtain ⟨A7, c7, rfl, hr7⟩ := own_reads ho7; have hrb7 := (fun h => ReadsInt.below h hb7) hrb6; have hL7 := below_after' hL6 hb7)
          | (go_at_call 18; (with_reducible refine (S2.out _ _ _ _ _ hrb7 hr7).mono ?_); rintro e w8 ⟨rfl, n8, rfl⟩; have hL8 := below_drewN hL7 n8))
        go_ret
        exact ⟨by first | rfl | simp, hL8⟩
end Go.Proofs.YtgippjhkimohlaaDoor
