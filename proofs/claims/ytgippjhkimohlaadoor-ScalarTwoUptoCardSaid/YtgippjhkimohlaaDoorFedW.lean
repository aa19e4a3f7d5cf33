/- Scalar: the statements' own feeding of a decoder: the walk. -/
import Derived.Test.YtgippjhkimohlaaDoorFeeB
import Derived.Test.YtgippjhkimohlaaDoorScX
set_option linter.unusedVariables false
set_option linter.unusedSimpArgs false
namespace Go.Proofs.YtgippjhkimohlaaDoor
open Go.RowKit Go.Proofs.YtgippjhkimohlaaDoorW.PrintWords Go.Proofs.YtgippjhkimohlaaDoorW.PrintLast Go.Proofs.YtgippjhkimohlaaDoorQ.Fee
/-- the first k pieces in one -/
def catS (l : List ByteArray) (k : Nat) : ByteArray := (l.take k).foldl (· ++ ·) ByteArray.empty
theorem catS_zero (l : List ByteArray) : catS l 0 = ByteArray.empty := rfl
theorem catS_succ (l : List ByteArray) (k : Nat) (h : k < l.length) : catS l (k + 1) = catS l k ++ l.getD k ByteArray.empty := by
  unfold catS
  rw [List.take_succ_eq_append_getElem h, List.foldl_append, List.getD_eq_getElem?_getD, List.getElem?_eq_getElem h]
  rfl
def sizeS (l : List ByteArray) : Nat := (l.map (·.size)).sum
theorem catS_size (l : List ByteArray) (k : Nat) : (catS l k).size ≤ sizeS l := by
  have key : ∀ (l : List ByteArray) (a : ByteArray), (l.foldl (· ++ ·) a).size = a.size + sizeS l := by
    intro l
    induction l with
    | nil => intro a; simp [sizeS]
    | cons x l ih => intro a; rw [List.foldl_cons, ih, ByteArray.size_append]; simp [sizeS]; omega
  have h2 : sizeS (l.take k) ≤ sizeS l := by
    have : sizeS l = sizeS (l.take k) + sizeS (l.drop k) := by
      unfold sizeS
      rw [← List.sum_append, ← List.map_append, List.take_append_drop]
    omega
  unfold catS
  rw [key]
  have : ByteArray.empty.size = 0 := rfl
  omega
theorem exec_cut {P : Program} {o : Oper} {a : Act} {w : World} (t e : TypeId) (ht : P.underlying t = some (.slice e)) (x y : Operand) (ho : o.op = .slice t x (some y) none none) (v u : Value) (hx : a.eval x = v) (j : Int) (hy : a.eval y = .int .i64 j)
    (h : (Instr.slice t v (some (.int .i64 j)) none none).run P w = .ok u w) : (execOp a.eval o).run P w = .ok (.value u) w := by
  unfold execOp
  simp only [ho, hx, hy, Option.map_some, Option.map_none, Instr.sliceAt, Sem.run_bind, run_underlying ht, Result.andThen_ok, h, Sem.run_pure]
theorem isD_of {w0 W : World} {g : Nat} {f : ByteArray} (h : Blk W g 102 #[.string f]) (hg : w0.heap.size ≤ g) : IsS102 w0 W g f := ⟨h, hg⟩
/-- what the calls of one round tell -/
theorem fed_step (a p : ByteArray) (l : List (Int × Pc)) (e : Int) (h : Sur a l e) (hz : (a ++ p).size ≤ 1000000000) (g : Nat) (w0 : World) (T : Tabs w0) (hg : w0.heap.size ≤ g) :
    ∃ (l' : List (Int × Pc)) (e' : Int) (X : List Int), Sur (a ++ p) l' e' ∧ (l'.map (·.2.rune)).drop l.length = X ∧ l.length ≤ l'.length ∧ l'.length ≤ (a ++ p).size ∧
      (∀ W, Calls Tryd.prog 67 #[.string (a ++ p)] W fun e w' => e = .returned (.string (tail (a ++ p) e')) ∧ Below W.heap.size W w') ∧
      (∀ W, Calls Tryd.prog 20 #[.string ((a ++ p).extract 0 ((a ++ p).size - (tail (a ++ p) e').size))] W (RPost 21 (l'.map (·.2.rune)) W)) ∧
      (∀ W, Blk W g 102 #[.string (tail a e)] → Below w0.heap.size w0 W → Calls Tryd.prog 39 #[.pointer (some ⟨g, 0, none⟩), .string p] W fun e w' => ∃ v : Value, e = .returned v ∧ Kd.R (Kd.int .i32) 21 w' W.heap.size (fun _ => True) v X ∧ Blk w' g 102 #[.string (tail (a ++ p) e')] ∧ Below w0.heap.size w0 w' ∧ KeepBut W w' g none) := by
  have hza : (a ++ p).size = a.size + p.size := ByteArray.size_append
  have hta := tail_size a e h.pos h.le
  have hzp : (tail a e ++ p).size = (tail a e).size + p.size := ByteArray.size_append
  obtain ⟨l2, e2, h2, h3, h4⟩ := Feed_is (tail a e) p (by have := h.pos; omega) ((tail a e ++ p).size + 1) (by omega)
  obtain ⟨hs, ht⟩ := h.grow h2
  have hpos := hs.pos
  have hle := hs.le
  have hz2 := tail_size (a ++ p) (e2 + e) hpos hle
  have hlen : (l ++ l2.map fun p => (p.1 + e, p.2)).length ≤ (a ++ p).size := by
    have h5 := pcs_len (a ++ p) (a ++ p).size 0 (by omega) (by omega)
    have h6 := hs.path.pcs_eq (by omega)
    have : (pcs (a ++ p) 0).length = (l ++ l2.map fun p => (p.1 + e, p.2)).length + (pcs (a ++ p) (e2 + e)).length := by rw [h6, List.length_append]
    omega
  have hru : ((l ++ l2.map fun p => (p.1 + e, p.2)).map (·.2.rune)) = l.map (·.2.rune) ++ l2.map (·.2.rune) := by
    rw [List.map_append, List.map_map]
    rfl
  refine ⟨l ++ l2.map fun p => (p.1 + e, p.2), e2 + e, l2.map (·.2.rune), hs, ?_, ?_, hlen, fun W => ?_, fun W => ?_, fun W hW hB => ?_⟩
  · rw [hru, show l.length = (l.map (·.2.rune)).length by rw [List.length_map], List.drop_left]
  · rw [List.length_append]; omega
  · exact posternref02_Held.calls (a ++ p) _ W (RHeld_is (a ++ p) hz hs)
  · have hd := hs.dec.1
    have hx : (a ++ p).extract 0 ((a ++ p).size - (tail (a ++ p) (e2 + e)).size) = (a ++ p).extract 0 (e2 + e).toNat := by
      congr 1
      omega
    rw [hx, ← hd]
    exact RDecode_any _ W (by have := size_ext (a ++ p) 0 (e2 + e).toNat (by omega); omega)
  · rw [ht]
    refine (scalar_Decoder_Feed.calls _ g (tail a e) p (l2.map (·.2.rune)) (tail (tail a e ++ p) e2) w0 W (isD_of hW hg) hB h4 T).mono ?_
    rintro e w' ⟨v, rfl, h5, h6, h7, h8⟩
    exact ⟨v, rfl, h5, h6.1, h7, h8⟩
theorem reads_keep {w W : World} {base n c g : Nat} {e : TypeId} {A : Option Addr} {l : List Int} {k : IntKind} (ho : w.ownsRow base e 1 (.slice A n c) l.length (nums k l)) (hg : g < base) (hk : KeepBut w W g none) : n = l.length ∧ n ≤ c ∧ ReadsInt W k A l.length l := by
  have h1 : Kd.R (Kd.int k) e w base (fun q => q ≠ g) (.slice A n c) l := Kd.R_of_own ho (fun q hq => by have := own_base ho q hq; omega)
  obtain ⟨e1, e2, e3⟩ := Kd.R_reads' (Kd.R_keep h1 hk (fun q hq => hq))
  exact ⟨e1, e2, Kd.reads_of_C (enc := Value.int k) (d := (0 : Int)) (h1 := fun _ => rfl) e3⟩
theorem decT_len' (s : ByteArray) : (decT s).length ≤ s.size := by
  unfold decT
  rw [List.length_map]
  exact pcs_len s s.size 0 (by omega) (by omega)
theorem end_call (a : ByteArray) (L : List (Int × Pc)) (e : Int) (hS : Sur a L e) (g : Nat) (w0 W : World) (hW : Blk W g 102 #[.string (tail a e)]) (hL : Below w0.heap.size w0 W) (hg : w0.heap.size ≤ g) :
    Calls Tryd.prog 40 #[.pointer (some ⟨g, 0, none⟩)] W fun x w' => ∃ v : Value, x = .returned v ∧ Kd.R (Kd.int .i32) 21 w' W.heap.size (fun _ => True) v (if e = (a.size : Int) then [] else [65533]) ∧ Blk w' g 102 #[.string (⟨#[]⟩ : ByteArray)] ∧ Below w0.heap.size w0 w' ∧ KeepBut W w' g none := by
  have hf : scalar_Decoder_End.f (tail a e) = some ((if e = (a.size : Int) then [] else [65533]), (⟨#[]⟩ : ByteArray)) := by
    unfold scalar_Decoder_End.f
    by_cases he : e = a.size
    · rw [if_pos he, he, tail_end_eq, if_pos (List.isEmpty_iff.1 (empty_yes (s := (⟨#[]⟩ : ByteArray)) rfl))]
    · have hz := tail_size a e hS.pos hS.le
      have hne := empty_no (s := tail a e) (by have := hS.le; omega)
      rw [if_neg he, if_neg (fun h => by rw [h] at hne; cases hne)]
  refine (scalar_Decoder_End.calls g _ _ _ w0 W (isD_of hW hg) hL hf).mono ?_
  rintro x w' ⟨v, rfl, h5, h6, h7, h8⟩
  exact ⟨v, rfl, h5, h6.1, h7, h8⟩
/-- how far the feeding has come -/
def FedAt (l : List ByteArray) (w0 : World) (g k : Nat) (told : Int) (wr : World) : Prop := ∃ (L : List (Int × Pc)) (e : Int), Sur (catS l k) L e ∧ told = L.length ∧ Blk wr g 102 #[.string (tail (catS l k) e)] ∧ Below w0.heap.size w0 wr
set_option maxRecDepth 100000 in
set_option maxHeartbeats 4000000 in
theorem fed_any (l : List ByteArray) (Ap : Option Addr) (cp g : Nat) (w0 w : World) (hR : ReadsOf Value.string ByteArray.empty w0 Ap l.length l) (hs : sizeS l ≤ 1048576) (hn : l.length ≤ 1048576) (hB : Blk w g 102 #[.string ByteArray.empty]) (hw : Below w0.heap.size w0 w) (hg : w0.heap.size ≤ g) (T : Tabs w0) :
    Calls Tryd.prog 43 #[.pointer (some ⟨g, 0, none⟩), .slice Ap l.length cp] w fun e w' => e = .returned (.bool true) ∧ Blk w' g 102 #[.string ByteArray.empty] ∧ Below w0.heap.size w0 w' := by
  have HR := Lib.hid hR
  have Hst : Hid (FedAt l w0 g 0 0 w) := Lib.hid ⟨[], 0, ⟨.nil 0, fun p hp => (by cases hp), by omega, Or.inl rfl⟩, rfl, hB, hw⟩
  clear hR hB hw
  go_enter Tryd.func43, Tryd.ntmps43
  go_wp2
  go_loopw [5, 6, 14] (fun a t i wr => ∃ (k : Nat) (told : Int), i = .int .i64 (k : Int) ∧ k ≤ l.length ∧ a = .string (catS l k) ∧ t = .int .i64 told ∧ Hid (FedAt l w0 g k told wr)) (fun _ _ i _ => l.length - (intOf i).toNat)
  case atStart => exact ⟨0, 0, rfl, by omega, rfl, rfl, Hst⟩
  case round =>
    clear Hst
    obtain ⟨k, told, rfl, hk, rfl, rfl, hF⟩ := hrel
    obtain ⟨L, e, hS, rfl, hB, hL⟩ := hF.out
    clear hF
    have hz := catS_size l k
    by_cases hlt : k < l.length
    · have hsu := catS_succ l k hlt
      have hz2 := catS_size l (k + 1)
      obtain ⟨ad, rfl, c0⟩ := (HR.out.below hL).at_ k (by omega) (by omega)
      simp only [rdOf, Int.toNat_natCast] at c0
      obtain ⟨L', e', X, h1, h2, h3, h4, h5, h6, h7⟩ := fed_step (catS l k) (l.getD k ByteArray.empty) L e hS (by rw [← hsu]; omega) g w0 T hg
      have hte := tail_size _ e' h1.pos h1.le
      rw [← hsu] at h1 h4 h5 h6 h7 hte
      have hpos := h1.pos
      have hle := h1.le
      have Hnew : ∀ W, Blk W g 102 #[.string (tail (catS l (k + 1)) e')] → Below w0.heap.size w0 W → Hid (FedAt l w0 g (k + 1) L'.length W) := fun W hW hL => Lib.hid ⟨L', e', h1, rfl, hW, hL⟩
      have hX : X.length = L'.length - L.length := by rw [← h2, List.length_drop, List.length_map]
      generalize l.getD k ByteArray.empty = t at *
      have hs1 : (catS l k).size + t.size ≤ 1048576 := by rw [← ByteArray.size_append, ← hsu]; omega
      have hA := hsu.symm
      obtain ⟨A, hA2⟩ : ∃ A, catS l (k + 1) = A := ⟨_, rfl⟩
      have HA2 := Lib.hid hA2
      rw [hA2] at hA h4 h5 h6 h7 hte Hnew hle hz2
      clear hA2 hsu h1 hS
      generalize catS l k = a at *
      generalize hH : tail A e' = H at *
      have hHs : H.size ≤ A.size := by omega
      have hm : (L'.map (·.2.rune)).length = L'.length := List.length_map ..
      generalize L'.map (·.2.rune) = M at *
      have Hm := Lib.hid hm
      clear hm
      have H5 := Lib.hid h5
      have H6 := Lib.hid h6
      have H7 := Lib.hid h7
      have Hd := Lib.hid h2
      have hBw : g < wr.heap.size := hB.lt
      clear h5 h6 h7 h2 hH hte
      go_upto_region 8 with (first
        | (go_at_call 67; (with_reducible refine (H5.out _).mono ?_); rintro e w1 ⟨rfl, hb1⟩)
        | (go_at_call 20; (with_reducible refine (H6.out _).mono ?_); rintro e w2 ⟨hb2, v2, rfl, ho2⟩; obtain ⟨A2, c2, rfl⟩ := own_slice ho2))
      have hbz := hb1.size
      have hB2 : Blk w2 g 102 _ := (hB.after hb1).after hb2
      have hL2 : Below w0.heap.size w0 w2 := ((hL.trans ⟨hb1.os, hb1.tape, hb1.output, hb1.size, fun i hi => hb1.block i (Nat.lt_of_lt_of_le hi hL.size)⟩).trans ⟨hb2.os, hb2.tape, hb2.output, hb2.size, fun i hi => hb2.block i (by have := hL.size; omega)⟩)
      obtain ⟨i0, hi0, hz0, hz1, hz2'⟩ := info_parts info_i32
      have hcap := own_le ho2
      obtain ⟨A3, hcut, hrd, hcap3⟩ := print_cut_int (P := Tryd.prog) (k := .i32) 24 21 Tryd.underlying24 hi0 hz1 A2 c2 M (L.length : Int) (by omega) (by have := Hm.out; omega) hcap
      rw [Int.toNat_natCast, Hd.out] at hcut hrd hcap3
      have hheld := fun W hW hL => scalar_Decoder_Held.calls g H H H w0 W (isD_of hW hg) hL rfl
      have Hheld := Lib.hid hheld
      have Ho2 := Lib.hid ho2
      clear hheld ho2
      refine start_ (n := 14) (S := (fun w' => True)) (ds := []) #[false, false, false, false, false, false, false, false, false, false, false, false, false, false] (by kernel_rfl) rfl rfl trivial (fun hHeld => ?_)
      refine pure_ (i := 0) (N := some 31) (v := ?_) (a' := ?_) #[true, false, false, false, false, false, false, false, false, false, false, false, false, false] rfl rfl (by kernel_rfl) (fun _ _ _ h => h) (Or.inl ⟨by rfl, ?_⟩) ?_ ?_
      rotate_left
      · intro w'
        go_simp
        with_reducible rfl
      rotate_left
      · simp only [Act.put, List.setIfInBounds_toArray, List.set_cons_zero, List.set_cons_succ, i64_w, i32_w]
        rfl
      refine pure_ (i := 1) (N := some 32) (v := ?_) (a' := ?_) #[true, true, false, false, false, false, false, false, false, false, false, false, false, false] rfl rfl (by kernel_rfl) (fun _ _ _ h => h) (Or.inl ⟨by rfl, ?_⟩) ?_ ?_
      rotate_left
      · intro w'
        go_simp
        with_reducible rfl
      rotate_left
      · simp only [Act.put, List.setIfInBounds_toArray, List.set_cons_zero, List.set_cons_succ, i64_w, i32_w]
        rfl
      refine pure_ (i := 3) (N := some 34) (v := ?_) (a' := ?_) #[true, true, false, true, false, false, false, false, false, false, false, false, false, false] rfl rfl (by kernel_rfl) (fun _ _ _ h => h) (Or.inl ⟨by rfl, ?_⟩) ?_ ?_
      rotate_left
      · intro w'
        go_simp
        with_reducible rfl
      rotate_left
      · simp only [Act.put, List.setIfInBounds_toArray, List.set_cons_zero, List.set_cons_succ, i64_w, i32_w]
        rfl
      refine pure_ (i := 4) (N := some 35) (v := ?_) (a' := ?_) #[true, true, false, true, true, false, false, false, false, false, false, false, false, false] rfl rfl (by kernel_rfl) (fun _ _ _ h => h) (Or.inl ⟨by rfl, ?_⟩) ?_ ?_
      rotate_left
      · intro w'
        go_simp
        with_reducible rfl
      rotate_left
      · simp only [Act.put, List.setIfInBounds_toArray, List.set_cons_zero, List.set_cons_succ, i64_w, i32_w]
        rfl
      refine take_ (i := 5) (N := some 36) (v := ?_) (a' := ?_) #[true, true, false, true, true, true, false, false, false, false, false, false, false, false] rfl rfl (by kernel_rfl) (fun _ _ _ h => h) (Or.inl ⟨by rfl, ?_⟩) hHeld ?_ ?_
      rotate_left
      · rintro w' s0
        refine (exec_cut 24 21 Tryd.underlying24 (.tmp 34) (.tmp 35) rfl (.slice A2 M.length c2) _ rfl (L.length : Int) rfl (hcut _)).trans ?_
        with_reducible rfl
      rotate_left
      · simp only [Act.put, List.setIfInBounds_toArray, List.set_cons_zero, List.set_cons_succ, i64_w, i32_w]
        rfl
      refine one_ (i := 2) (N := some 33) #[true, true, true, true, true, true, false, false, false, false, false, false, false, false] rfl rfl (by kernel_rfl) (by decide) (fun K hK => ?_)
      refine goes_ Tryd.func39 (by kernel_rfl) rfl #[.pointer (some ⟨g, 0, none⟩), .string t] (by rfl) rfl rfl (by first | rfl | (simp only [List.map_toArray, List.map_cons, List.map_nil]; done) | (simp only [List.map_toArray, List.map_cons, List.map_nil]; rfl)) ?_
      refine (H7.out _ hB2.drew hL2.drew).mono ?_
      rintro _ w3 ⟨v3, rfl, hX3, hB3, hL3, hK3⟩
      refine ⟨_, rfl, ?_⟩
      obtain ⟨A4, c4, rfl, hc4, hr4⟩ := Kd.R_reads hX3
      have hr2 := (reads_keep Ho2.out (show g < w1.heap.size by omega) hK3)
      have hr3 := hrd _ hr2.2.2
      refine hK.out _ _ (trivial) (fun hHeld => ?_)
      clear hK K
      refine norm_ (a' := ?_) ?_ ?_
      rotate_left
      · show Act.put _ (some 33) _ = _
        simp only [Act.put, List.setIfInBounds_toArray, List.set_cons_zero, List.set_cons_succ, i64_w, i32_w]
        rfl
      refine one_ (i := 6) (N := some 37) #[true, true, true, true, true, true, true, false, false, false, false, false, false, false] rfl rfl (by kernel_rfl) (by decide) (fun K hK => ?_)
      refine goes_ Tryd.func18 (by kernel_rfl) rfl #[.slice A4 X.length c4, .slice A3 X.length (c2 - L.length)] (by rfl) rfl rfl (by first | rfl | (simp only [List.map_toArray, List.map_cons, List.map_nil]; done) | (simp only [List.map_toArray, List.map_cons, List.map_nil]; rfl)) ?_
      refine (runes_same X A4 A3 c4 (c2 - L.length) _ (Kd.reads_of_C (enc := Value.int .i32) (d := (0 : Int)) (h1 := fun _ => rfl) hr4) hr3).mono ?_
      rintro _ w4 ⟨rfl, n4, rfl⟩
      refine ⟨_, rfl, ?_⟩
      refine hK.out _ _ (trivial) (fun hHeld => ?_)
      clear hK K
      refine norm_ (a' := ?_) ?_ ?_
      rotate_left
      · show Act.put _ (some 37) _ = _
        simp only [Act.put, List.setIfInBounds_toArray, List.set_cons_zero, List.set_cons_succ, i64_w, i32_w]
        rfl
      refine pure_ (i := 7) (N := some 38) (v := ?_) (a' := ?_) #[true, true, true, true, true, true, true, true, false, false, false, false, false, false] rfl rfl (by kernel_rfl) (fun _ _ _ h => h) (Or.inl ⟨by rfl, ?_⟩) ?_ ?_
      rotate_left
      · intro w'
        go_simp
        with_reducible rfl
      rotate_left
      · simp only [Act.put, List.setIfInBounds_toArray, List.set_cons_zero, List.set_cons_succ, i64_w, i32_w]
        rfl
      refine pure_ (i := 8) (N := some 39) (v := ?_) (a' := ?_) #[true, true, true, true, true, true, true, true, true, false, false, false, false, false] rfl rfl (by kernel_rfl) (fun _ _ _ h => h) (Or.inl ⟨by rfl, ?_⟩) ?_ ?_
      rotate_left
      · intro w'
        go_simp
        with_reducible rfl
      rotate_left
      · simp only [Act.put, List.setIfInBounds_toArray, List.set_cons_zero, List.set_cons_succ, i64_w, i32_w]
        rfl
      refine pure_ (i := 9) (N := some 40) (v := ?_) (a' := ?_) #[true, true, true, true, true, true, true, true, true, true, false, false, false, false] rfl rfl (by kernel_rfl) (fun _ _ _ h => h) (Or.inl ⟨by rfl, ?_⟩) ?_ ?_
      rotate_left
      · intro w'
        go_simp
        with_reducible rfl
      rotate_left
      · simp only [Act.put, List.setIfInBounds_toArray, List.set_cons_zero, List.set_cons_succ, i64_w, i32_w]
        rfl
      refine pure_ (i := 11) (N := some 42) (v := ?_) (a' := ?_) #[true, true, true, true, true, true, true, true, true, true, false, true, false, false] rfl rfl (by kernel_rfl) (fun _ _ _ h => h) (Or.inl ⟨by rfl, ?_⟩) ?_ ?_
      rotate_left
      · intro w'
        go_simp
        with_reducible rfl
      rotate_left
      · simp only [Act.put, List.setIfInBounds_toArray, List.set_cons_zero, List.set_cons_succ, i64_w, i32_w]
        rfl
      refine one_ (i := 10) (N := some 41) #[true, true, true, true, true, true, true, true, true, true, true, true, false, false] rfl rfl (by kernel_rfl) (by decide) (fun K hK => ?_)
      refine goes_ Tryd.func44 (by kernel_rfl) rfl #[.pointer (some ⟨g, 0, none⟩)] (by rfl) rfl rfl (by first | rfl | (simp only [List.map_toArray, List.map_cons, List.map_nil]; done) | (simp only [List.map_toArray, List.map_cons, List.map_nil]; rfl)) ?_
      refine (Hheld.out _ (hB3.drewN n4) (below_drewN hL3 n4)).mono ?_
      rintro _ w5 ⟨rfl, hI5, hL5, hK5⟩
      refine ⟨_, rfl, ?_⟩
      refine hK.out _ _ (trivial) (fun hHeld => ?_)
      clear hK K
      refine norm_ (a' := ?_) ?_ ?_
      rotate_left
      · show Act.put _ (some 41) _ = _
        simp only [Act.put, List.setIfInBounds_toArray, List.set_cons_zero, List.set_cons_succ, i64_w, i32_w]
        rfl
      refine pure_ (i := 12) (N := some 43) (v := ?_) (a' := ?_) #[true, true, true, true, true, true, true, true, true, true, true, true, true, false] rfl rfl (by kernel_rfl) (fun _ _ _ h => h) (Or.inl ⟨by rfl, ?_⟩) ?_ ?_
      rotate_left
      · intro w'
        go_simp
        with_reducible rfl
      rotate_left
      · simp only [Act.put, List.setIfInBounds_toArray, List.set_cons_zero, List.set_cons_succ, i64_w, i32_w]
        rfl
      refine pure_ (i := 13) (N := some 44) (v := ?_) (a' := ?_) #[true, true, true, true, true, true, true, true, true, true, true, true, true, true] rfl rfl (by kernel_rfl) (fun _ _ _ h => h) (Or.inl ⟨by rfl, ?_⟩) ?_ ?_
      rotate_left
      · intro w'
        go_simp
        with_reducible rfl
      rotate_left
      · simp only [Act.put, List.setIfInBounds_toArray, List.set_cons_zero, List.set_cons_succ, i64_w, i32_w]
        rfl
      refine done_ (by kernel_rfl) ?_
      have HN := Hnew w5 hI5.1 hL5
      go_wp2
      exact ⟨⟨k + 1, _, rfl, by omega, by rw [HA2.out], by rw [Hm.out], HN⟩, by simp [intOf]; omega⟩
    · obtain rfl : k = l.length := by omega
      have hdec := hS.dec.2
      have hLl : L.length ≤ (catS l l.length).size := by
        have h5 := pcs_len (catS l l.length) (catS l l.length).size 0 (by omega) (by omega)
        have h6 := congrArg List.length (hS.path.pcs_eq (by omega))
        rw [List.length_append] at h6
        omega
      have hrd := fun W => RDecode_any (catS l l.length) W (by omega)
      have hdl := decT_len' (catS l l.length)
      obtain ⟨X, hX⟩ : ∃ X : List Int, (if e = ((catS l l.length).size : Int) then [] else [65533]) = X := ⟨_, rfl⟩
      have hend := fun W hW hL => end_call (catS l l.length) L e hS g w0 W hW hL hg
      rw [hX] at hdec hend
      have hd2 : (decT (catS l l.length)).drop L.length = X := by rw [hdec, show L.length = (L.map (·.2.rune)).length by rw [List.length_map], List.drop_left]
      have hd3 : L.length ≤ (decT (catS l l.length)).length := by rw [hdec, List.length_append, List.length_map]; omega
      clear hX hdec hS
      generalize tail (catS l l.length) e = H at *
      generalize decT (catS l l.length) = M at *
      generalize catS l l.length = a at *
      have Hrd := Lib.hid hrd
      have Hend := Lib.hid hend
      have Hd := Lib.hid hd2
      have hBw : g < wr.heap.size := hB.lt
      clear hrd hend hd2
      go_upto_region 13 with (go_at_call 20; (with_reducible refine (Hrd.out _).mono ?_); rintro e w2 ⟨hb2, v2, rfl, ho2⟩; obtain ⟨A2, c2, rfl⟩ := own_slice ho2)
      have hB2 : Blk w2 g 102 _ := hB.after hb2
      have hL2 : Below w0.heap.size w0 w2 := hL.trans ⟨hb2.os, hb2.tape, hb2.output, hb2.size, fun i hi => hb2.block i (Nat.lt_of_lt_of_le hi hL.size)⟩
      obtain ⟨i0, hi0, hz0, hz1, hz2'⟩ := info_parts info_i32
      have hcap := own_le ho2
      obtain ⟨A3, hcut, hrdc, hcap3⟩ := print_cut_int (P := Tryd.prog) (k := .i32) 24 21 Tryd.underlying24 hi0 hz1 A2 c2 M (L.length : Int) (by omega) (by omega) hcap
      rw [Int.toNat_natCast, Hd.out] at hcut hrdc hcap3
      have hheld := fun W hW hL => scalar_Decoder_Held.calls g (⟨#[]⟩ : ByteArray) (⟨#[]⟩ : ByteArray) (⟨#[]⟩ : ByteArray) w0 W (isD_of hW hg) hL rfl
      have Hheld := Lib.hid hheld
      have Ho2 := Lib.hid ho2
      clear hheld ho2
      refine start_ (n := 12) (S := (fun w' => True)) (ds := []) #[false, false, false, false, false, false, false, false, false, false, false, false] (by kernel_rfl) rfl rfl trivial (fun hHeld => ?_)
      refine pure_ (i := 0) (N := some 50) (v := ?_) (a' := ?_) #[true, false, false, false, false, false, false, false, false, false, false, false] rfl rfl (by kernel_rfl) (fun _ _ _ h => h) (Or.inl ⟨by rfl, ?_⟩) ?_ ?_
      rotate_left
      · intro w'
        go_simp
        with_reducible rfl
      rotate_left
      · simp only [Act.put, List.setIfInBounds_toArray, List.set_cons_zero, List.set_cons_succ, i64_w, i32_w]
        rfl
      refine pure_ (i := 2) (N := some 52) (v := ?_) (a' := ?_) #[true, false, true, false, false, false, false, false, false, false, false, false] rfl rfl (by kernel_rfl) (fun _ _ _ h => h) (Or.inl ⟨by rfl, ?_⟩) ?_ ?_
      rotate_left
      · intro w'
        go_simp
        with_reducible rfl
      rotate_left
      · simp only [Act.put, List.setIfInBounds_toArray, List.set_cons_zero, List.set_cons_succ, i64_w, i32_w]
        rfl
      refine pure_ (i := 3) (N := some 53) (v := ?_) (a' := ?_) #[true, false, true, true, false, false, false, false, false, false, false, false] rfl rfl (by kernel_rfl) (fun _ _ _ h => h) (Or.inl ⟨by rfl, ?_⟩) ?_ ?_
      rotate_left
      · intro w'
        go_simp
        with_reducible rfl
      rotate_left
      · simp only [Act.put, List.setIfInBounds_toArray, List.set_cons_zero, List.set_cons_succ, i64_w, i32_w]
        rfl
      refine take_ (i := 4) (N := some 54) (v := ?_) (a' := ?_) #[true, false, true, true, true, false, false, false, false, false, false, false] rfl rfl (by kernel_rfl) (fun _ _ _ h => h) (Or.inl ⟨by rfl, ?_⟩) hHeld ?_ ?_
      rotate_left
      · rintro w' s0
        refine (exec_cut 24 21 Tryd.underlying24 (.tmp 52) (.tmp 53) rfl (.slice A2 M.length c2) _ rfl (L.length : Int) rfl (hcut _)).trans ?_
        with_reducible rfl
      rotate_left
      · simp only [Act.put, List.setIfInBounds_toArray, List.set_cons_zero, List.set_cons_succ, i64_w, i32_w]
        rfl
      refine one_ (i := 1) (N := some 51) #[true, true, true, true, true, false, false, false, false, false, false, false] rfl rfl (by kernel_rfl) (by decide) (fun K hK => ?_)
      refine goes_ Tryd.func40 (by kernel_rfl) rfl #[.pointer (some ⟨g, 0, none⟩)] (by rfl) rfl rfl (by first | rfl | (simp only [List.map_toArray, List.map_cons, List.map_nil]; done) | (simp only [List.map_toArray, List.map_cons, List.map_nil]; rfl)) ?_
      refine (Hend.out _ hB2.drew hL2.drew).mono ?_
      rintro _ w3 ⟨v3, rfl, hX3, hB3, hL3, hK3⟩
      refine ⟨_, rfl, ?_⟩
      obtain ⟨A4, c4, rfl, hc4, hr4⟩ := Kd.R_reads hX3
      have hr2 := (reads_keep Ho2.out hBw hK3)
      have hr3 := hrdc _ hr2.2.2
      refine hK.out _ _ (trivial) (fun hHeld => ?_)
      clear hK K
      refine norm_ (a' := ?_) ?_ ?_
      rotate_left
      · show Act.put _ (some 51) _ = _
        simp only [Act.put, List.setIfInBounds_toArray, List.set_cons_zero, List.set_cons_succ, i64_w, i32_w]
        rfl
      refine one_ (i := 5) (N := some 55) #[true, true, true, true, true, true, false, false, false, false, false, false] rfl rfl (by kernel_rfl) (by decide) (fun K hK => ?_)
      refine goes_ Tryd.func18 (by kernel_rfl) rfl #[.slice A4 X.length c4, .slice A3 X.length (c2 - L.length)] (by rfl) rfl rfl (by first | rfl | (simp only [List.map_toArray, List.map_cons, List.map_nil]; done) | (simp only [List.map_toArray, List.map_cons, List.map_nil]; rfl)) ?_
      refine (runes_same X A4 A3 c4 (c2 - L.length) _ (Kd.reads_of_C (enc := Value.int .i32) (d := (0 : Int)) (h1 := fun _ => rfl) hr4) hr3).mono ?_
      rintro _ w4 ⟨rfl, n4, rfl⟩
      refine ⟨_, rfl, ?_⟩
      refine hK.out _ _ (trivial) (fun hHeld => ?_)
      clear hK K
      refine norm_ (a' := ?_) ?_ ?_
      rotate_left
      · show Act.put _ (some 55) _ = _
        simp only [Act.put, List.setIfInBounds_toArray, List.set_cons_zero, List.set_cons_succ, i64_w, i32_w]
        rfl
      refine pure_ (i := 6) (N := some 56) (v := ?_) (a' := ?_) #[true, true, true, true, true, true, true, false, false, false, false, false] rfl rfl (by kernel_rfl) (fun _ _ _ h => h) (Or.inl ⟨by rfl, ?_⟩) ?_ ?_
      rotate_left
      · intro w'
        go_simp
        with_reducible rfl
      rotate_left
      · simp only [Act.put, List.setIfInBounds_toArray, List.set_cons_zero, List.set_cons_succ, i64_w, i32_w]
        rfl
      refine pure_ (i := 7) (N := some 57) (v := ?_) (a' := ?_) #[true, true, true, true, true, true, true, true, false, false, false, false] rfl rfl (by kernel_rfl) (fun _ _ _ h => h) (Or.inl ⟨by rfl, ?_⟩) ?_ ?_
      rotate_left
      · intro w'
        go_simp
        with_reducible rfl
      rotate_left
      · simp only [Act.put, List.setIfInBounds_toArray, List.set_cons_zero, List.set_cons_succ, i64_w, i32_w]
        rfl
      refine one_ (i := 8) (N := some 58) #[true, true, true, true, true, true, true, true, true, false, false, false] rfl rfl (by kernel_rfl) (by decide) (fun K hK => ?_)
      refine goes_ Tryd.func44 (by kernel_rfl) rfl #[.pointer (some ⟨g, 0, none⟩)] (by rfl) rfl rfl (by first | rfl | (simp only [List.map_toArray, List.map_cons, List.map_nil]; done) | (simp only [List.map_toArray, List.map_cons, List.map_nil]; rfl)) ?_
      refine (Hheld.out _ (hB3.drewN n4) (below_drewN hL3 n4)).mono ?_
      rintro _ w5 ⟨rfl, hI5, hL5, hK5⟩
      refine ⟨_, rfl, ?_⟩
      refine hK.out _ _ (trivial) (fun hHeld => ?_)
      clear hK K
      refine norm_ (a' := ?_) ?_ ?_
      rotate_left
      · show Act.put _ (some 58) _ = _
        simp only [Act.put, List.setIfInBounds_toArray, List.set_cons_zero, List.set_cons_succ, i64_w, i32_w]
        rfl
      refine pure_ (i := 9) (N := some 59) (v := ?_) (a' := ?_) #[true, true, true, true, true, true, true, true, true, true, false, false] rfl rfl (by kernel_rfl) (fun _ _ _ h => h) (Or.inl ⟨by rfl, ?_⟩) ?_ ?_
      rotate_left
      · intro w'
        go_simp
        with_reducible rfl
      rotate_left
      · simp only [Act.put, List.setIfInBounds_toArray, List.set_cons_zero, List.set_cons_succ, i64_w, i32_w]
        rfl
      refine pure_ (i := 10) (N := some 60) (v := ?_) (a' := ?_) #[true, true, true, true, true, true, true, true, true, true, true, false] rfl rfl (by kernel_rfl) (fun _ _ _ h => h) (Or.inl ⟨by rfl, ?_⟩) ?_ ?_
      rotate_left
      · intro w'
        go_simp
        with_reducible rfl
      rotate_left
      · simp only [Act.put, List.setIfInBounds_toArray, List.set_cons_zero, List.set_cons_succ, i64_w, i32_w]
        rfl
      refine pure_ (i := 11) (N := some 4) (v := ?_) (a' := ?_) #[true, true, true, true, true, true, true, true, true, true, true, true] rfl rfl (by kernel_rfl) (fun _ _ _ h => h) (Or.inl ⟨by rfl, ?_⟩) ?_ ?_
      rotate_left
      · intro w'
        go_simp
        with_reducible rfl
      rotate_left
      · simp only [Act.put, List.setIfInBounds_toArray, List.set_cons_zero, List.set_cons_succ, i64_w, i32_w]
        rfl
      refine done_ (by kernel_rfl) ?_
      go_wp2
      go_ret
      exact ⟨by first | rfl | simp, hI5.1, hL5⟩
end Go.Proofs.YtgippjhkimohlaaDoor
