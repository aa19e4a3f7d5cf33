/- ScalarUnitFeeds: the statement's own feeding of a decoder of units: the walk. -/
import Derived.Test.YtgippjhkimohlaaDoorUfeB
import Derived.Test.YtgippjhkimohlaaDoorOpnR
import Derived.Test.YtgippjhkimohlaaDoorQUfex2
import Derived.Test.YtgippjhkimohlaaDoorQUfex1
import Derived.Test.YtgippjhkimohlaaDoorQUfex0
set_option linter.unusedVariables false
set_option linter.unusedSimpArgs false
namespace Go.Proofs.YtgippjhkimohlaaDoor
open Go.RowKit Go.Proofs.YtgippjhkimohlaaDoorW.PrintWords Go.Proofs.YtgippjhkimohlaaDoorW.PrintLast Go.Proofs.YtgippjhkimohlaaDoorQ.Ufe
namespace UF
theorem exec_cut {P : Program} {o : Oper} {a : Act} {w : World} (t e : TypeId) (ht : P.underlying t = some (.slice e)) (x y : Operand) (ho : o.op = .slice t x (some y) none none) (v u : Value) (hx : a.eval x = v) (j : Int) (hy : a.eval y = .int .i64 j)
    (h : (Instr.slice t v (some (.int .i64 j)) none none).run P w = .ok u w) : (execOp a.eval o).run P w = .ok (.value u) w := by
  unfold execOp
  simp only [ho, hx, hy, Option.map_some, Option.map_none, Instr.sliceAt, Sem.run_bind, run_underlying ht, Result.andThen_ok, h, Sem.run_pure]
theorem reads_keep {w W : World} {base n c g : Nat} {e : TypeId} {A : Option Addr} {l : List Int} {k : IntKind} (ho : w.ownsRow base e 1 (.slice A n c) l.length (nums k l)) (hg : g < base) (hk : KeepBut w W g none) : n = l.length ∧ n ≤ c ∧ ReadsInt W k A l.length l := by
  have h1 : Kd.R (Kd.int k) e w base (fun q => q ≠ g) (.slice A n c) l := Kd.R_of_own ho (fun q hq => by have := own_base ho q hq; omega)
  obtain ⟨e1, e2, e3⟩ := Kd.R_reads' (Kd.R_keep h1 hk (fun q hq => hq))
  exact ⟨e1, e2, Kd.reads_of_C (enc := Value.int k) (d := (0 : Int)) (h1 := fun _ => rfl) e3⟩
end UF
def catL (ls : List (List Int)) (k : Nat) : List Int := (ls.take k).flatten
theorem catL_succ (ls : List (List Int)) (k : Nat) (h : k < ls.length) : catL ls (k + 1) = catL ls k ++ ls.getD k [] := by
  unfold catL
  rw [List.take_succ_eq_append_getElem h, List.flatten_append, List.getD_eq_getElem?_getD, List.getElem?_eq_getElem h]
  simp
theorem catL_len (ls : List (List Int)) (k : Nat) : (catL ls k).length ≤ ls.flatten.length := by
  have e : ls.flatten = catL ls k ++ (ls.drop k).flatten := by
    unfold catL
    rw [← List.flatten_append, List.take_append_drop]
  rw [e, List.length_append]
  omega
theorem catL_mem (ls : List (List Int)) (k : Nat) : ∀ x ∈ catL ls k, x ∈ ls.flatten := fun x hx => by
  unfold catL at hx
  rw [List.mem_flatten] at hx ⊢
  obtain ⟨l, h1, h2⟩ := hx
  exact ⟨l, List.mem_of_mem_take h1, h2⟩
theorem fedU_round (a l : List Int) : ∃ X, (if l = [] then [] else frmU (sureU (preU (heldU a) ++ l))) = X ∧ (if l = [] then heldU a else heldU (preU (heldU a) ++ l)) = heldU (a ++ l) ∧ frmU (sureU (a ++ l)) = frmU (sureU a) ++ X := by
  by_cases h : l = []
  · subst h
    exact ⟨[], rfl, by rw [if_pos rfl, List.append_nil], by rw [List.append_nil, List.append_nil]⟩
  · obtain ⟨h1, h2⟩ := fedU_step a l h
    rw [if_neg h, if_neg h]
    exact ⟨_, rfl, h1, h2⟩
theorem heldU_range (a : List Int) : 0 ≤ heldU a ∧ heldU a ≤ 65535 := by
  by_cases h : endsHi a = true
  · obtain ⟨_, h1, h2⟩ := heldU_some h
    omega
  · unfold heldU
    rw [if_neg h]
    omega
theorem sure_len (a : List Int) : (sureU a).length ≤ a.length := by
  unfold sureU
  split
  · rw [List.length_dropLast]; omega
  · omega
theorem sure_mem (a : List Int) : ∀ x ∈ sureU a, x ∈ a := fun x hx => by
  unfold sureU at hx
  split at hx
  · exact List.dropLast_subset _ hx
  · exact hx
theorem all_keep {W W' : World} {base n g : Nat} {e : TypeId} {v : Value} {xs : List Value} (ho : W.ownsRow base e 1 v n xs) (hg : g < base) (hk : KeepBut W W' g none) : W'.ownsRow base e 1 v n xs := by
  refine own_move ho fun k hkb => ?_
  have h1 := own_base ho k hkb
  exact hk.2 k (own_lt ho k hkb) (by omega) (by simp)
theorem below_mid {w0 W W' : World} {B : Nat} (h : Below w0.heap.size w0 W) (k : Below B W W') (hB : w0.heap.size ≤ B) : Below w0.heap.size w0 W' := h.trans ⟨k.os, k.tape, k.output, k.size, fun i hi => k.block i (Nat.lt_of_lt_of_le hi hB)⟩
theorem own_last {w : World} {base c : Nat} {ad : Addr} {b : List Int} {u : Int} (ho : w.ownsRow base 69 1 (.slice (some ad) b.length c) b.length (nums .u16 b)) (h : 0 < b.length) (hu : rd b ((b.length : Int) - 1) = u) : w.cell? (ad.add (b.length - 1)) = some (.int .u16 u) := by
  obtain ⟨A6, c6, e6, hr⟩ := own_reads ho
  injection e6 with e1 e2 e3
  subst e1
  obtain ⟨ad', e, d⟩ := hr.at_ ((b.length : Int) - 1) (by omega) (by omega)
  injection e with e
  subst e
  rw [hu, show ((b.length : Int) - 1).toNat = b.length - 1 by omega] at d
  exact d
theorem own_rdA {w : World} {base n c : Nat} {A : Option Addr} {e : TypeId} {k : IntKind} {xs : List Int} (ho : w.ownsRow base e 1 (.slice A n c) n (nums k xs)) : ReadsInt w k A n xs := by
  obtain ⟨A6, c6, e6, hr⟩ := own_reads ho
  injection e6 with e1 e2 e3
  subst e1
  exact hr
/-- how far the feeding has come -/
structure FedU (ls : List (List Int)) (w0 w : World) (g k : Nat) (told : Int) (A : Option Addr) (c : Nat) (wr : World) : Prop where
  told : told = (frmU (sureU (catL ls k))).length
  st : IsS104 w0 wr g (heldU (catL ls k))
  low : Below w0.heap.size w0 wr
  own : wr.ownsRow w.heap.size 69 1 (.slice A (catL ls k).length c) (catL ls k).length (nums .u16 (catL ls k))
  size : w.heap.size ≤ wr.heap.size
/-- what a round calls -/
theorem feed_call (a L : List Int) (B : Option Addr) (cB g : Nat) (w0 : World) (X : List Int) (hX : (if L = [] then [] else frmU (sureU (preU (heldU a) ++ L))) = X) (hH : (if L = [] then heldU a else heldU (preU (heldU a) ++ L)) = heldU (a ++ L)) (hl : L.length ≤ 1048576) (hc : L.length ≤ cB) (hr : ∀ x ∈ L, 0 ≤ x ∧ x ≤ 65535) :
    ∀ W, IsS104 w0 W g (heldU a) → Below w0.heap.size w0 W → ReadsInt W .u16 B L.length L → Calls Tryd.prog 48 #[.pointer (some ⟨g, 0, none⟩), .slice B L.length cB] W fun e w' => ∃ v : Value, e = .returned v ∧ Kd.R (Kd.int .i32) 21 w' W.heap.size (fun _ => True) v X ∧ IsS104 w0 w' g (heldU (a ++ L)) ∧ Below w0.heap.size w0 w' ∧ KeepBut W w' g none := by
  intro W hI hB hR
  have := UFeed_any L B cB g (heldU a) w0 W hI hB hl hc hR hr (heldU_range a)
  rw [hX, hH] at this
  exact this
theorem rfrm_call (y : List Int) (n : Nat) (A : Option Addr) (c : Nat) (W : World) (hn : y.length = n) (hy : ∀ x ∈ y, 0 ≤ x ∧ x ≤ 65535) (hyl : n ≤ 1048577) (hc : n ≤ c) (R : ReadsInt W .u16 A y.length y) :
    Calls Tryd.prog 42 #[.slice A n c] W fun e w' => ∃ (A3 : Option Addr) (c3 : Nat), e = .returned (.slice A3 (frmU y).length c3) ∧ w'.ownsRow W.heap.size 21 1 (.slice A3 (frmU y).length c3) (frmU y).length (nums .i32 (frmU y)) ∧ Below W.heap.size W w' := by
  subst hn
  refine (posternref02_FromUnits.calls 9000000 A c y (frmU y) W (C_of_ints R) hc (UF.RFromUnits_is y hy (by omega) 9000000 (by omega))).mono ?_
  rintro e w' ⟨v, rfl, hR, hb⟩
  obtain ⟨A3, c3, rfl⟩ := Kd.R_slice hR
  exact ⟨A3, c3, rfl, Kd.own_of_R hR, hb⟩
theorem runes_sameX (l : List Int) (n : Nat) (A B : Option Addr) (ca cb : Nat) (w : World) (hn : l.length = n) (ha : ReadsInt w .i32 A l.length l) (hb : ReadsInt w .i32 B l.length l) :
    Calls Tryd.prog 18 #[.slice A l.length ca, .slice B n cb] w fun e w' => e = .returned (.bool true) ∧ ∃ n, w' = w.drewN n := by
  subst hn
  exact runes_same l A B ca cb w ha hb
set_option maxRecDepth 100000 in
set_option maxHeartbeats 8000000 in
theorem fedU_any (ls : List (List Int)) (Ap : Option Addr) (cp g : Nat) (w0 w : World) (hR : RowsInt w0 .u16 Ap ls) (hr : ∀ x ∈ ls.flatten, 0 ≤ x ∧ x ≤ 65535) (hs : ls.flatten.length + ls.length ≤ 1048576) (hI : IsS104 w0 w g 0) (hw : Below w0.heap.size w0 w) :
    Calls Tryd.prog 46 #[.pointer (some ⟨g, 0, none⟩), .slice Ap ls.length cp] w fun e w' => e = .returned (.bool true) ∧ IsS104 w0 w' g 0 ∧ Below w0.heap.size w0 w' := by
  have HR := Lib.hid hR
  have HRR := Lib.hid hr
  have hgg := hI.ge
  have hgl := hI.lt
  have hw0 := hw.size
  have hsz : ls.length ≤ 1048576 := by omega
  have hsf : ls.flatten.length ≤ 1048576 := by omega
  have Hst : Hid (FedU ls w0 w g 0 0 (some ⟨w.heap.size, 0, none⟩) 0 (w.alloc (.cells #[] 69))) := Lib.hid ⟨rfl, hI.alloc _, below_alloc hw _, World.ownsRow_lit (base := w.heap.size) (e := 69) (size := 1) w #[] 0 (Nat.le_refl _) (by decide) rfl, by simp⟩
  clear hR hr hI hw hs
  go_enter Tryd.func46, Tryd.ntmps46
  go_wp2
  go_loopw [5, 6, 17] (fun al t i wr => ∃ (k : Nat) (told : Int) (A : Option Addr) (c : Nat), i = .int .i64 (k : Int) ∧ k ≤ ls.length ∧ al = .slice A (catL ls k).length c ∧ t = .int .i64 told ∧ Hid (FedU ls w0 w g k told A c wr)) (fun _ _ i _ => ls.length - (intOf i).toNat)
  case atStart => exact ⟨0, 0, some ⟨w.heap.size, 0, none⟩, 0, rfl, by omega, rfl, rfl, Hst⟩
  case round =>
    clear Hst
    obtain ⟨k, told, A, c, rfl, hk, rfl, rfl, hF⟩ := hrel
    obtain ⟨htold, hst, hlow, hown, hwz⟩ := hF.out
    clear hF
    have hcl := catL_len ls k
    by_cases hlt : k < ls.length
    · obtain ⟨ad, B, cB, rfl, c00, hRB, hLc⟩ := HR.out k hlt
      have c0 := (hlow.cell (World.block_lt_of_cell? w0 _ c00)).trans c00
      have hsu := catL_succ ls k hlt
      have hcl2 := catL_len ls (k + 1)
      have hrg : ∀ x ∈ catL ls (k + 1), 0 ≤ x ∧ x ≤ 65535 := fun x hx => HRR.out x (catL_mem ls (k + 1) x hx)
      have Hnew : ∀ (A : Option Addr) (c n : Nat) (W : World), n = (catL ls (k + 1)).length → IsS104 w0 W g (heldU (catL ls (k + 1))) → Below w0.heap.size w0 W → W.ownsRow w.heap.size 69 1 (.slice A n c) n (nums .u16 (catL ls (k + 1))) → w.heap.size ≤ W.heap.size → Hid (FedU ls w0 w g (k + 1) (frmU (sureU (catL ls (k + 1)))).length A c W) := fun A c n W hn h1 h2 h3 h4 => by subst hn; exact Lib.hid ⟨rfl, h1, h2, h3, h4⟩
      generalize ls.getD k [] = L at *
      rw [hsu] at hcl2 hrg Hnew
      obtain ⟨X, hX1, hX2, hX3⟩ := fedU_round (catL ls k) L
      have hLl : L.length ≤ 1048576 := by rw [List.length_append] at hcl2; omega
      have HFe := Lib.hid (feed_call (catL ls k) L B cB g w0 X hX1 hX2 hLl hLc (fun x hx => hrg x (by simp [hx])))
      have hal : (catL ls (k + 1)).length = (catL ls k ++ L).length := by rw [hsu]
      have Hal := Lib.hid hal
      have Hap : Hid ((catL ls k ++ L).length ≤ 1048576) := Lib.hid (by omega)
      generalize catL ls k = a at *
      obtain ⟨b, hb⟩ : ∃ b, a ++ L = b := ⟨_, rfl⟩
      have Hb := Lib.hid hb
      rw [hb] at hrg hcl2 hX3 Hnew HFe Hal
      have hbl : b.length ≤ 1048576 := by omega
      have hfl := frmU_len a.length (sureU a) (sure_len a)
      have hsl := sure_len a
      have hsl2 := sure_len b
      have hfl2 := frmU_len b.length (sureU b) (sure_len b)
      have hsr : ∀ x ∈ sureU b, 0 ≤ x ∧ x ≤ 65535 := fun x hx => hrg x (sure_mem b x hx)
      have Hsr := Lib.hid hsr
      have hrf := fun (n : Nat) (A : Option Addr) (c : Nat) (W : World) (hn : (sureU b).length = n) (hc : n ≤ c) (R : ReadsInt W .u16 A (sureU b).length (sureU b)) => rfrm_call (sureU b) n A c W hn hsr (by omega) hc R
      obtain ⟨N, hN⟩ : ∃ N, (frmU (sureU a)).length = N := ⟨_, rfl⟩
      rw [hN] at htold hfl
      subst htold
      obtain ⟨M, hM⟩ : ∃ M, frmU (sureU b) = M := ⟨_, rfl⟩
      rw [hM] at hX3 hfl2 Hnew
      simp only [hM] at hrf
      have hMX : M.drop N = X := by rw [hX3, ← hN, List.drop_left]
      have hMl : M.length = N + X.length := by rw [hX3, List.length_append, hN]
      have hNM : N ≤ M.length := by omega
      have hMb : M.length ≤ 1048576 := by omega
      have HMl := Lib.hid hMl
      have HMX := Lib.hid hMX
      have HRF := Lib.hid hrf
      clear hMl hM hN
      have hap := fun w2 v2 (ho : w2.ownsRow w.heap.size 69 1 v2 b.length (nums .u16 b)) (hb2 : Below w.heap.size wr w2) (hg2 : wr.grownBy w2 (Value.slice A a.length c).ownBlock) => (show ∃ (A2 : Option Addr) (c2 : Nat), v2 = .slice A2 b.length c2 ∧ b.length ≤ c2 ∧ ReadsInt w2 .u16 A2 b.length b ∧ IsS104 w0 w2 g (heldU a) ∧ Below w0.heap.size w0 w2 ∧ ReadsInt w2 .u16 B L.length L from by
        obtain ⟨A2, c2, rfl, h1⟩ := own_reads ho
        refine ⟨A2, c2, rfl, own_le ho, h1, hst.grown hg2 (fun e => ?_), below_mid hlow hb2 hw0, ?_⟩
        · have := own_base hown g e.symm
          omega
        · exact hRB.below (below_mid hlow hb2 hw0))
      have HAP := Lib.hid hap
      have HRB := Lib.hid (hRB.below hlow)
      have HOW := Lib.hid hown
      have hac := own_le hown
      clear hap hrf hsr hrg hRB c00 hX1 hX2 hX3 hst hlow hMX hsu hb
      by_cases hbz : b.length = 0
      · obtain rfl : b = [] := List.eq_nil_of_length_eq_zero hbz
        have hS : sureU [] = ([] : List Int) := rfl
        have hV : heldU [] = 0 := rfl
        rw [hV] at HFe Hnew
        rw [hS] at HRF
        clear hbz
        go_upto_region 11 with (first
          | (at_builtin; go_loud (refine print_append_row (w0 := wr) w.heap.size rfl (.tmp 21) (.tmp 22) 45 69 .u16 2 rfl Tryd.underlying45 info69 (by decide) _ a L B L.length cB rfl rfl HOW.out HRB.out (Below.refl _ _) hwz (by have := Hap.out; rw [List.length_append] at this; omega) ?_; intro v2 w2 ho2 hb2 hg2 hat2; rw [Hb.out] at ho2; obtain ⟨A2, c2, rfl, hc2, hr2, hI2, hL2, hRL⟩ := HAP.out w2 v2 ho2 hb2 hg2; skip))
          | (go_at_call 42; go_loud ((with_reducible refine (HRF.out 0 A2 c2 _ rfl (Nat.zero_le _) hr2).mono ?_); rintro e w3 ⟨A3, c3, rfl, ho3, hb3⟩)))
        obtain ⟨i1, hi1, hz11, hz12, hz13⟩ := info_parts info21
        have hcap := own_le ho3
        obtain ⟨A5, hcut, hrd, hcap5⟩ := print_cut_int (P := Tryd.prog) (k := .i32) 24 21 Tryd.underlying24 hi1 hz12 A3 c3 M (N : Int) (by omega) (by omega) hcap
        rw [Int.toNat_natCast, HMX.out] at hcut hrd hcap5
        have hI3 := hI2.below hb3
        have hL3 := below_after hL2 hb3
        have hRL3 := hRL.below hb3
        have Ho2 := Lib.hid (pw_own_below ho2 hb3)
        have Ho3 := Lib.hid ho3
        have hz2 := hb2.size
        have hz3 := hb3.size
        clear ho2 ho3
        refine start_ (n := 8) (S := (fun w' => True)) (ds := []) #[false, false, false, false, false, false, false, false] (by kernel_rfl) rfl rfl trivial (fun hHeld => ?_)
        refine pure_ (i := 0) (N := some 54) (v := ?_) (a' := ?_) #[true, false, false, false, false, false, false, false] rfl rfl (by kernel_rfl) (fun _ _ _ h => h) (Or.inl ⟨by rfl, ?_⟩) ?_ ?_
        rotate_left
        · intro w'
          go_simp
          with_reducible rfl
        rotate_left
        · simp only [Act.put, List.setIfInBounds_toArray, List.set_cons_zero, List.set_cons_succ, i64_w, i32_w]
          rfl
        refine pure_ (i := 1) (N := some 55) (v := ?_) (a' := ?_) #[true, true, false, false, false, false, false, false] rfl rfl (by kernel_rfl) (fun _ _ _ h => h) (Or.inl ⟨by rfl, ?_⟩) ?_ ?_
        rotate_left
        · intro w'
          go_simp
          with_reducible rfl
        rotate_left
        · simp only [Act.put, List.setIfInBounds_toArray, List.set_cons_zero, List.set_cons_succ, i64_w, i32_w]
          rfl
        refine pure_ (i := 3) (N := some 57) (v := ?_) (a' := ?_) #[true, true, false, true, false, false, false, false] rfl rfl (by kernel_rfl) (fun _ _ _ h => h) (Or.inl ⟨by rfl, ?_⟩) ?_ ?_
        rotate_left
        · intro w'
          go_simp
          with_reducible rfl
        rotate_left
        · simp only [Act.put, List.setIfInBounds_toArray, List.set_cons_zero, List.set_cons_succ, i64_w, i32_w]
          rfl
        refine pure_ (i := 4) (N := some 58) (v := ?_) (a' := ?_) #[true, true, false, true, true, false, false, false] rfl rfl (by kernel_rfl) (fun _ _ _ h => h) (Or.inl ⟨by rfl, ?_⟩) ?_ ?_
        rotate_left
        · intro w'
          go_simp
          with_reducible rfl
        rotate_left
        · simp only [Act.put, List.setIfInBounds_toArray, List.set_cons_zero, List.set_cons_succ, i64_w, i32_w]
          rfl
        refine take_ (i := 5) (N := some 59) (v := ?_) (a' := ?_) #[true, true, false, true, true, true, false, false] rfl rfl (by kernel_rfl) (fun _ _ _ h => h) (Or.inl ⟨by rfl, ?_⟩) hHeld ?_ ?_
        rotate_left
        · rintro w' s0
          refine (UF.exec_cut 24 21 Tryd.underlying24 (.tmp 57) (.tmp 58) rfl (.slice A3 M.length c3) _ rfl (N : Int) rfl (hcut _)).trans ?_
          with_reducible rfl
        rotate_left
        · simp only [Act.put, List.setIfInBounds_toArray, List.set_cons_zero, List.set_cons_succ, i64_w, i32_w]
          rfl
        refine one_ (i := 2) (N := some 56) #[true, true, true, true, true, true, false, false] rfl rfl (by kernel_rfl) (by decide) (fun K hK => ?_)
        refine goes_ Tryd.func48 (by kernel_rfl) rfl #[.pointer (some ⟨g, 0, none⟩), .slice B L.length cB] (by rfl) rfl rfl (by first | rfl | (simp only [List.map_toArray, List.map_cons, List.map_nil]; done) | (simp only [List.map_toArray, List.map_cons, List.map_nil]; rfl)) ?_
        refine (HFe.out _ hI3.drew hL3.drew hRL3).mono ?_
        rintro _ w4 ⟨v4, rfl, hX4, hI4, hL4, hK4⟩
        refine ⟨_, rfl, ?_⟩
        obtain ⟨A4, c4, rfl, hc4, hr4⟩ := Kd.R_reads hX4
        have hr2' := (UF.reads_keep Ho3.out (show g < w2.heap.size by omega) hK4)
        have hr3 := hrd _ hr2'.2.2
        refine hK.out _ _ (trivial) (fun hHeld => ?_)
        clear hK K
        refine norm_ (a' := ?_) ?_ ?_
        rotate_left
        · show Act.put _ (some 56) _ = _
          simp only [Act.put, List.setIfInBounds_toArray, List.set_cons_zero, List.set_cons_succ, i64_w, i32_w]
          rfl
        refine one_ (i := 6) (N := some 60) #[true, true, true, true, true, true, true, false] rfl rfl (by kernel_rfl) (by decide) (fun K hK => ?_)
        refine goes_ Tryd.func18 (by kernel_rfl) rfl #[.slice A4 X.length c4, .slice A5 X.length (c3 - N)] (by rfl) rfl rfl (by first | rfl | (simp only [List.map_toArray, List.map_cons, List.map_nil]; done) | (simp only [List.map_toArray, List.map_cons, List.map_nil]; rfl)) ?_
        refine (runes_same X A4 A5 c4 (c3 - N) _ (Kd.reads_of_C (enc := Value.int .i32) (d := (0 : Int)) (h1 := fun _ => rfl) hr4) hr3).mono ?_
        rintro _ w5 ⟨rfl, n5, rfl⟩
        refine ⟨_, rfl, ?_⟩
        refine hK.out _ _ (trivial) (fun hHeld => ?_)
        clear hK K
        refine norm_ (a' := ?_) ?_ ?_
        rotate_left
        · show Act.put _ (some 60) _ = _
          simp only [Act.put, List.setIfInBounds_toArray, List.set_cons_zero, List.set_cons_succ, i64_w, i32_w]
          rfl
        refine pure_ (i := 7) (N := some 61) (v := ?_) (a' := ?_) #[true, true, true, true, true, true, true, true] rfl rfl (by kernel_rfl) (fun _ _ _ h => h) (Or.inl ⟨by rfl, ?_⟩) ?_ ?_
        rotate_left
        · intro w'
          go_simp
          with_reducible rfl
        rotate_left
        · simp only [Act.put, List.setIfInBounds_toArray, List.set_cons_zero, List.set_cons_succ, i64_w, i32_w]
          rfl
        refine done_ (by kernel_rfl) ?_
        have hz4 : w3.heap.size ≤ w4.heap.size := hK4.1
        have Ho4 := Lib.hid (all_keep (W := w3.drew) Ho2.out hgl hK4)
        clear Ho2 Ho3 hcut hrd hr4 hr3 hr2' hX4 hcap5 hi1 hz11 hz12 hz13
        go_wp2_with (go_at_call 47; go_loud ((with_reducible refine (scalar_UnitDecoder_Held.calls g 0 0 (0 != 0) 0 w0 _ (hI4.drewN n5) (below_drewN hL4 n5) rfl).mono ?_); rintro e w6 ⟨rfl, hI6, hL6, hK6⟩; have Ho6 := Lib.hid (all_keep (W := w4.drewN n5) Ho4.out hgl hK6); have hz6 : w4.heap.size ≤ w6.heap.size := hK6.1; skip))
        exact ⟨⟨k + 1, (M.length : Int), A2, c2, rfl, by omega, by first | (rw [Hal.out]; done) | (rw [Hal.out]; rfl), rfl, Hnew A2 c2 _ w6 rfl hI6 hL6 Ho6.out (by omega)⟩, by simp [intOf]; omega⟩
      · have hbp : 0 < b.length := Nat.pos_of_ne_zero hbz
        obtain ⟨u, hu⟩ : ∃ u, rd b ((b.length : Int) - 1) = u := ⟨_, rfl⟩
        have Hu := Lib.hid hu
        by_cases hhi : 55296 ≤ u ∧ u ≤ 56319
        · have hS := sureU_rd b hbp
          have hV := heldU_rd b hbp
          rw [hu, if_pos hhi, show b.length - 1 = ((b.length : Int) - 1).toNat by omega] at hS
          rw [hu, if_pos hhi] at hV
          rw [hV] at HFe Hnew
          rw [hS] at HRF
          have hub0 : (u == 0) = false := beq_eq_false_iff_ne.mpr (by omega)
          have hub1 : (u != 0) = true := bne_iff_ne.mpr (by omega)
          have h1 := hhi.1
          have h2 := hhi.2
          clear hS hV hu hbz
          go_upto_region 11 with (first
            | (at_builtin; go_loud (refine print_append_row (w0 := wr) w.heap.size rfl (.tmp 21) (.tmp 22) 45 69 .u16 2 rfl Tryd.underlying45 info69 (by decide) _ a L B L.length cB rfl rfl HOW.out HRB.out (Below.refl _ _) hwz (by have := Hap.out; rw [List.length_append] at this; omega) ?_; intro v2 w2 ho2 hb2 hg2 hat2; rw [Hb.out] at ho2; obtain ⟨A2, c2, rfl, hc2, hr2, hI2, hL2, hRL⟩ := HAP.out w2 v2 ho2 hb2 hg2; obtain ⟨ad2, rfl, d2⟩ := hr2.at_ ((b.length : Int) - 1) (by omega) (by omega); rw [Hu.out, show ((b.length : Int) - 1).toNat = b.length - 1 by omega] at d2; obtain ⟨i0, hi0, hz0, hz1, hz2⟩ := info_parts info69; obtain ⟨hct, hrt, hlt9⟩ := print_take_int (P := Tryd.prog) (k := .u16) 45 69 Tryd.underlying45 hi0 hz1 (some ad2) c2 b ((b.length : Int) - 1) (by omega) (by omega) hc2; clear hz2 hz1 hz0 hi0 i0))
            | (go_at_call 42; go_loud ((with_reducible refine (HRF.out (b.length - 1) _ c2 _ (by rw [List.length_take]; omega) (by omega) (hrt _ hr2)).mono ?_); rintro e w3 ⟨A3, c3, rfl, ho3, hb3⟩)))
          obtain ⟨i1, hi1, hz11, hz12, hz13⟩ := info_parts info21
          have hcap := own_le ho3
          obtain ⟨A5, hcut, hrd, hcap5⟩ := print_cut_int (P := Tryd.prog) (k := .i32) 24 21 Tryd.underlying24 hi1 hz12 A3 c3 M (N : Int) (by omega) (by omega) hcap
          rw [Int.toNat_natCast, HMX.out] at hcut hrd hcap5
          have hI3 := hI2.below hb3
          have hL3 := below_after hL2 hb3
          have hRL3 := hRL.below hb3
          have Ho2 := Lib.hid (pw_own_below ho2 hb3)
          have Ho3 := Lib.hid ho3
          have hz2 := hb2.size
          have hz3 := hb3.size
          clear ho2 ho3
          refine start_ (n := 8) (S := (fun w' => True)) (ds := []) #[false, false, false, false, false, false, false, false] (by kernel_rfl) rfl rfl trivial (fun hHeld => ?_)
          refine pure_ (i := 0) (N := some 54) (v := ?_) (a' := ?_) #[true, false, false, false, false, false, false, false] rfl rfl (by kernel_rfl) (fun _ _ _ h => h) (Or.inl ⟨by rfl, ?_⟩) ?_ ?_
          rotate_left
          · intro w'
            go_simp
            with_reducible rfl
          rotate_left
          · simp only [Act.put, List.setIfInBounds_toArray, List.set_cons_zero, List.set_cons_succ, i64_w, i32_w]
            rfl
          refine pure_ (i := 1) (N := some 55) (v := ?_) (a' := ?_) #[true, true, false, false, false, false, false, false] rfl rfl (by kernel_rfl) (fun _ _ _ h => h) (Or.inl ⟨by rfl, ?_⟩) ?_ ?_
          rotate_left
          · intro w'
            go_simp
            with_reducible rfl
          rotate_left
          · simp only [Act.put, List.setIfInBounds_toArray, List.set_cons_zero, List.set_cons_succ, i64_w, i32_w]
            rfl
          refine pure_ (i := 3) (N := some 57) (v := ?_) (a' := ?_) #[true, true, false, true, false, false, false, false] rfl rfl (by kernel_rfl) (fun _ _ _ h => h) (Or.inl ⟨by rfl, ?_⟩) ?_ ?_
          rotate_left
          · intro w'
            go_simp
            with_reducible rfl
          rotate_left
          · simp only [Act.put, List.setIfInBounds_toArray, List.set_cons_zero, List.set_cons_succ, i64_w, i32_w]
            rfl
          refine pure_ (i := 4) (N := some 58) (v := ?_) (a' := ?_) #[true, true, false, true, true, false, false, false] rfl rfl (by kernel_rfl) (fun _ _ _ h => h) (Or.inl ⟨by rfl, ?_⟩) ?_ ?_
          rotate_left
          · intro w'
            go_simp
            with_reducible rfl
          rotate_left
          · simp only [Act.put, List.setIfInBounds_toArray, List.set_cons_zero, List.set_cons_succ, i64_w, i32_w]
            rfl
          refine take_ (i := 5) (N := some 59) (v := ?_) (a' := ?_) #[true, true, false, true, true, true, false, false] rfl rfl (by kernel_rfl) (fun _ _ _ h => h) (Or.inl ⟨by rfl, ?_⟩) hHeld ?_ ?_
          rotate_left
          · rintro w' s0
            refine (UF.exec_cut 24 21 Tryd.underlying24 (.tmp 57) (.tmp 58) rfl (.slice A3 M.length c3) _ rfl (N : Int) rfl (hcut _)).trans ?_
            with_reducible rfl
          rotate_left
          · simp only [Act.put, List.setIfInBounds_toArray, List.set_cons_zero, List.set_cons_succ, i64_w, i32_w]
            rfl
          refine one_ (i := 2) (N := some 56) #[true, true, true, true, true, true, false, false] rfl rfl (by kernel_rfl) (by decide) (fun K hK => ?_)
          refine goes_ Tryd.func48 (by kernel_rfl) rfl #[.pointer (some ⟨g, 0, none⟩), .slice B L.length cB] (by rfl) rfl rfl (by first | rfl | (simp only [List.map_toArray, List.map_cons, List.map_nil]; done) | (simp only [List.map_toArray, List.map_cons, List.map_nil]; rfl)) ?_
          refine (HFe.out _ hI3.drew hL3.drew hRL3).mono ?_
          rintro _ w4 ⟨v4, rfl, hX4, hI4, hL4, hK4⟩
          refine ⟨_, rfl, ?_⟩
          obtain ⟨A4, c4, rfl, hc4, hr4⟩ := Kd.R_reads hX4
          have hr2' := (UF.reads_keep Ho3.out (show g < w2.heap.size by omega) hK4)
          have hr3 := hrd _ hr2'.2.2
          refine hK.out _ _ (trivial) (fun hHeld => ?_)
          clear hK K
          refine norm_ (a' := ?_) ?_ ?_
          rotate_left
          · show Act.put _ (some 56) _ = _
            simp only [Act.put, List.setIfInBounds_toArray, List.set_cons_zero, List.set_cons_succ, i64_w, i32_w]
            rfl
          refine one_ (i := 6) (N := some 60) #[true, true, true, true, true, true, true, false] rfl rfl (by kernel_rfl) (by decide) (fun K hK => ?_)
          refine goes_ Tryd.func18 (by kernel_rfl) rfl #[.slice A4 X.length c4, .slice A5 X.length (c3 - N)] (by rfl) rfl rfl (by first | rfl | (simp only [List.map_toArray, List.map_cons, List.map_nil]; done) | (simp only [List.map_toArray, List.map_cons, List.map_nil]; rfl)) ?_
          refine (runes_same X A4 A5 c4 (c3 - N) _ (Kd.reads_of_C (enc := Value.int .i32) (d := (0 : Int)) (h1 := fun _ => rfl) hr4) hr3).mono ?_
          rintro _ w5 ⟨rfl, n5, rfl⟩
          refine ⟨_, rfl, ?_⟩
          refine hK.out _ _ (trivial) (fun hHeld => ?_)
          clear hK K
          refine norm_ (a' := ?_) ?_ ?_
          rotate_left
          · show Act.put _ (some 60) _ = _
            simp only [Act.put, List.setIfInBounds_toArray, List.set_cons_zero, List.set_cons_succ, i64_w, i32_w]
            rfl
          refine pure_ (i := 7) (N := some 61) (v := ?_) (a' := ?_) #[true, true, true, true, true, true, true, true] rfl rfl (by kernel_rfl) (fun _ _ _ h => h) (Or.inl ⟨by rfl, ?_⟩) ?_ ?_
          rotate_left
          · intro w'
            go_simp
            with_reducible rfl
          rotate_left
          · simp only [Act.put, List.setIfInBounds_toArray, List.set_cons_zero, List.set_cons_succ, i64_w, i32_w]
            rfl
          refine done_ (by kernel_rfl) ?_
          have hz4 : w3.heap.size ≤ w4.heap.size := hK4.1
          have Ho4 := Lib.hid (all_keep (W := w3.drew) Ho2.out hgl hK4)
          clear Ho2 Ho3 hcut hrd hr4 hr3 hr2' hX4 hcap5 hi1 hz11 hz12 hz13
          go_wp2_with (go_at_call 47; go_loud ((with_reducible refine (scalar_UnitDecoder_Held.calls g u u (u != 0) u w0 _ (hI4.drewN n5) (below_drewN hL4 n5) rfl).mono ?_); rintro e w6 ⟨rfl, hI6, hL6, hK6⟩; have Ho6 := Lib.hid (all_keep (W := w4.drewN n5) Ho4.out hgl hK6); have hz6 : w4.heap.size ≤ w6.heap.size := hK6.1; have d6 := own_last Ho6.out hbp Hu.out))
          exact ⟨⟨k + 1, (M.length : Int), (some ad2), c2, rfl, by omega, by first | (rw [Hal.out]; done) | (rw [Hal.out]; rfl), rfl, Hnew (some ad2) c2 _ w6 rfl hI6 hL6 Ho6.out (by omega)⟩, by simp [intOf]; omega⟩
        · have hS := sureU_rd b hbp
          have hV := heldU_rd b hbp
          rw [hu, if_neg hhi] at hS
          rw [hu, if_neg hhi] at hV
          rw [hV] at HFe Hnew
          rw [hS] at HRF
          clear hS hV hu hbz
          by_cases hlo : 55296 ≤ u
          · have hup : ¬ u ≤ 56319 := by omega
            clear hhi
            go_upto_region 11 with (first
              | (at_builtin; go_loud (refine print_append_row (w0 := wr) w.heap.size rfl (.tmp 21) (.tmp 22) 45 69 .u16 2 rfl Tryd.underlying45 info69 (by decide) _ a L B L.length cB rfl rfl HOW.out HRB.out (Below.refl _ _) hwz (by have := Hap.out; rw [List.length_append] at this; omega) ?_; intro v2 w2 ho2 hb2 hg2 hat2; rw [Hb.out] at ho2; obtain ⟨A2, c2, rfl, hc2, hr2, hI2, hL2, hRL⟩ := HAP.out w2 v2 ho2 hb2 hg2; obtain ⟨ad2, rfl, d2⟩ := hr2.at_ ((b.length : Int) - 1) (by omega) (by omega); rw [Hu.out, show ((b.length : Int) - 1).toNat = b.length - 1 by omega] at d2))
              | (go_at_call 42; go_loud ((with_reducible refine (HRF.out b.length _ c2 _ rfl hc2 hr2).mono ?_); rintro e w3 ⟨A3, c3, rfl, ho3, hb3⟩)))
            obtain ⟨i1, hi1, hz11, hz12, hz13⟩ := info_parts info21
            have hcap := own_le ho3
            obtain ⟨A5, hcut, hrd, hcap5⟩ := print_cut_int (P := Tryd.prog) (k := .i32) 24 21 Tryd.underlying24 hi1 hz12 A3 c3 M (N : Int) (by omega) (by omega) hcap
            rw [Int.toNat_natCast, HMX.out] at hcut hrd hcap5
            have hI3 := hI2.below hb3
            have hL3 := below_after hL2 hb3
            have hRL3 := hRL.below hb3
            have Ho2 := Lib.hid (pw_own_below ho2 hb3)
            have Ho3 := Lib.hid ho3
            have hz2 := hb2.size
            have hz3 := hb3.size
            clear ho2 ho3
            refine start_ (n := 8) (S := (fun w' => True)) (ds := []) #[false, false, false, false, false, false, false, false] (by kernel_rfl) rfl rfl trivial (fun hHeld => ?_)
            refine pure_ (i := 0) (N := some 54) (v := ?_) (a' := ?_) #[true, false, false, false, false, false, false, false] rfl rfl (by kernel_rfl) (fun _ _ _ h => h) (Or.inl ⟨by rfl, ?_⟩) ?_ ?_
            rotate_left
            · intro w'
              go_simp
              with_reducible rfl
            rotate_left
            · simp only [Act.put, List.setIfInBounds_toArray, List.set_cons_zero, List.set_cons_succ, i64_w, i32_w]
              rfl
            refine pure_ (i := 1) (N := some 55) (v := ?_) (a' := ?_) #[true, true, false, false, false, false, false, false] rfl rfl (by kernel_rfl) (fun _ _ _ h => h) (Or.inl ⟨by rfl, ?_⟩) ?_ ?_
            rotate_left
            · intro w'
              go_simp
              with_reducible rfl
            rotate_left
            · simp only [Act.put, List.setIfInBounds_toArray, List.set_cons_zero, List.set_cons_succ, i64_w, i32_w]
              rfl
            refine pure_ (i := 3) (N := some 57) (v := ?_) (a' := ?_) #[true, true, false, true, false, false, false, false] rfl rfl (by kernel_rfl) (fun _ _ _ h => h) (Or.inl ⟨by rfl, ?_⟩) ?_ ?_
            rotate_left
            · intro w'
              go_simp
              with_reducible rfl
            rotate_left
            · simp only [Act.put, List.setIfInBounds_toArray, List.set_cons_zero, List.set_cons_succ, i64_w, i32_w]
              rfl
            refine pure_ (i := 4) (N := some 58) (v := ?_) (a' := ?_) #[true, true, false, true, true, false, false, false] rfl rfl (by kernel_rfl) (fun _ _ _ h => h) (Or.inl ⟨by rfl, ?_⟩) ?_ ?_
            rotate_left
            · intro w'
              go_simp
              with_reducible rfl
            rotate_left
            · simp only [Act.put, List.setIfInBounds_toArray, List.set_cons_zero, List.set_cons_succ, i64_w, i32_w]
              rfl
            refine take_ (i := 5) (N := some 59) (v := ?_) (a' := ?_) #[true, true, false, true, true, true, false, false] rfl rfl (by kernel_rfl) (fun _ _ _ h => h) (Or.inl ⟨by rfl, ?_⟩) hHeld ?_ ?_
            rotate_left
            · rintro w' s0
              refine (UF.exec_cut 24 21 Tryd.underlying24 (.tmp 57) (.tmp 58) rfl (.slice A3 M.length c3) _ rfl (N : Int) rfl (hcut _)).trans ?_
              with_reducible rfl
            rotate_left
            · simp only [Act.put, List.setIfInBounds_toArray, List.set_cons_zero, List.set_cons_succ, i64_w, i32_w]
              rfl
            refine one_ (i := 2) (N := some 56) #[true, true, true, true, true, true, false, false] rfl rfl (by kernel_rfl) (by decide) (fun K hK => ?_)
            refine goes_ Tryd.func48 (by kernel_rfl) rfl #[.pointer (some ⟨g, 0, none⟩), .slice B L.length cB] (by rfl) rfl rfl (by first | rfl | (simp only [List.map_toArray, List.map_cons, List.map_nil]; done) | (simp only [List.map_toArray, List.map_cons, List.map_nil]; rfl)) ?_
            refine (HFe.out _ hI3.drew hL3.drew hRL3).mono ?_
            rintro _ w4 ⟨v4, rfl, hX4, hI4, hL4, hK4⟩
            refine ⟨_, rfl, ?_⟩
            obtain ⟨A4, c4, rfl, hc4, hr4⟩ := Kd.R_reads hX4
            have hr2' := (UF.reads_keep Ho3.out (show g < w2.heap.size by omega) hK4)
            have hr3 := hrd _ hr2'.2.2
            refine hK.out _ _ (trivial) (fun hHeld => ?_)
            clear hK K
            refine norm_ (a' := ?_) ?_ ?_
            rotate_left
            · show Act.put _ (some 56) _ = _
              simp only [Act.put, List.setIfInBounds_toArray, List.set_cons_zero, List.set_cons_succ, i64_w, i32_w]
              rfl
            refine one_ (i := 6) (N := some 60) #[true, true, true, true, true, true, true, false] rfl rfl (by kernel_rfl) (by decide) (fun K hK => ?_)
            refine goes_ Tryd.func18 (by kernel_rfl) rfl #[.slice A4 X.length c4, .slice A5 X.length (c3 - N)] (by rfl) rfl rfl (by first | rfl | (simp only [List.map_toArray, List.map_cons, List.map_nil]; done) | (simp only [List.map_toArray, List.map_cons, List.map_nil]; rfl)) ?_
            refine (runes_same X A4 A5 c4 (c3 - N) _ (Kd.reads_of_C (enc := Value.int .i32) (d := (0 : Int)) (h1 := fun _ => rfl) hr4) hr3).mono ?_
            rintro _ w5 ⟨rfl, n5, rfl⟩
            refine ⟨_, rfl, ?_⟩
            refine hK.out _ _ (trivial) (fun hHeld => ?_)
            clear hK K
            refine norm_ (a' := ?_) ?_ ?_
            rotate_left
            · show Act.put _ (some 60) _ = _
              simp only [Act.put, List.setIfInBounds_toArray, List.set_cons_zero, List.set_cons_succ, i64_w, i32_w]
              rfl
            refine pure_ (i := 7) (N := some 61) (v := ?_) (a' := ?_) #[true, true, true, true, true, true, true, true] rfl rfl (by kernel_rfl) (fun _ _ _ h => h) (Or.inl ⟨by rfl, ?_⟩) ?_ ?_
            rotate_left
            · intro w'
              go_simp
              with_reducible rfl
            rotate_left
            · simp only [Act.put, List.setIfInBounds_toArray, List.set_cons_zero, List.set_cons_succ, i64_w, i32_w]
              rfl
            refine done_ (by kernel_rfl) ?_
            have hz4 : w3.heap.size ≤ w4.heap.size := hK4.1
            have Ho4 := Lib.hid (all_keep (W := w3.drew) Ho2.out hgl hK4)
            clear Ho2 Ho3 hcut hrd hr4 hr3 hr2' hX4 hcap5 hi1 hz11 hz12 hz13
            go_wp2_with (go_at_call 47; go_loud ((with_reducible refine (scalar_UnitDecoder_Held.calls g 0 0 (0 != 0) 0 w0 _ (hI4.drewN n5) (below_drewN hL4 n5) rfl).mono ?_); rintro e w6 ⟨rfl, hI6, hL6, hK6⟩; have Ho6 := Lib.hid (all_keep (W := w4.drewN n5) Ho4.out hgl hK6); have hz6 : w4.heap.size ≤ w6.heap.size := hK6.1; skip))
            exact ⟨⟨k + 1, (M.length : Int), (some ad2), c2, rfl, by omega, by first | (rw [Hal.out]; done) | (rw [Hal.out]; rfl), rfl, Hnew (some ad2) c2 _ w6 rfl hI6 hL6 Ho6.out (by omega)⟩, by simp [intOf]; omega⟩
          · clear hhi
            go_upto_region 11 with (first
              | (at_builtin; go_loud (refine print_append_row (w0 := wr) w.heap.size rfl (.tmp 21) (.tmp 22) 45 69 .u16 2 rfl Tryd.underlying45 info69 (by decide) _ a L B L.length cB rfl rfl HOW.out HRB.out (Below.refl _ _) hwz (by have := Hap.out; rw [List.length_append] at this; omega) ?_; intro v2 w2 ho2 hb2 hg2 hat2; rw [Hb.out] at ho2; obtain ⟨A2, c2, rfl, hc2, hr2, hI2, hL2, hRL⟩ := HAP.out w2 v2 ho2 hb2 hg2; obtain ⟨ad2, rfl, d2⟩ := hr2.at_ ((b.length : Int) - 1) (by omega) (by omega); rw [Hu.out, show ((b.length : Int) - 1).toNat = b.length - 1 by omega] at d2))
              | (go_at_call 42; go_loud ((with_reducible refine (HRF.out b.length _ c2 _ rfl hc2 hr2).mono ?_); rintro e w3 ⟨A3, c3, rfl, ho3, hb3⟩)))
            obtain ⟨i1, hi1, hz11, hz12, hz13⟩ := info_parts info21
            have hcap := own_le ho3
            obtain ⟨A5, hcut, hrd, hcap5⟩ := print_cut_int (P := Tryd.prog) (k := .i32) 24 21 Tryd.underlying24 hi1 hz12 A3 c3 M (N : Int) (by omega) (by omega) hcap
            rw [Int.toNat_natCast, HMX.out] at hcut hrd hcap5
            have hI3 := hI2.below hb3
            have hL3 := below_after hL2 hb3
            have hRL3 := hRL.below hb3
            have Ho2 := Lib.hid (pw_own_below ho2 hb3)
            have Ho3 := Lib.hid ho3
            have hz2 := hb2.size
            have hz3 := hb3.size
            clear ho2 ho3
            refine start_ (n := 8) (S := (fun w' => True)) (ds := []) #[false, false, false, false, false, false, false, false] (by kernel_rfl) rfl rfl trivial (fun hHeld => ?_)
            refine pure_ (i := 0) (N := some 54) (v := ?_) (a' := ?_) #[true, false, false, false, false, false, false, false] rfl rfl (by kernel_rfl) (fun _ _ _ h => h) (Or.inl ⟨by rfl, ?_⟩) ?_ ?_
            rotate_left
            · intro w'
              go_simp
              with_reducible rfl
            rotate_left
            · simp only [Act.put, List.setIfInBounds_toArray, List.set_cons_zero, List.set_cons_succ, i64_w, i32_w]
              rfl
            refine pure_ (i := 1) (N := some 55) (v := ?_) (a' := ?_) #[true, true, false, false, false, false, false, false] rfl rfl (by kernel_rfl) (fun _ _ _ h => h) (Or.inl ⟨by rfl, ?_⟩) ?_ ?_
            rotate_left
            · intro w'
              go_simp
              with_reducible rfl
            rotate_left
            · simp only [Act.put, List.setIfInBounds_toArray, List.set_cons_zero, List.set_cons_succ, i64_w, i32_w]
              rfl
            refine pure_ (i := 3) (N := some 57) (v := ?_) (a' := ?_) #[true, true, false, true, false, false, false, false] rfl rfl (by kernel_rfl) (fun _ _ _ h => h) (Or.inl ⟨by rfl, ?_⟩) ?_ ?_
            rotate_left
            · intro w'
              go_simp
              with_reducible rfl
            rotate_left
            · simp only [Act.put, List.setIfInBounds_toArray, List.set_cons_zero, List.set_cons_succ, i64_w, i32_w]
              rfl
            refine pure_ (i := 4) (N := some 58) (v := ?_) (a' := ?_) #[true, true, false, true, true, false, false, false] rfl rfl (by kernel_rfl) (fun _ _ _ h => h) (Or.inl ⟨by rfl, ?_⟩) ?_ ?_
            rotate_left
            · intro w'
              go_simp
              with_reducible rfl
            rotate_left
            · simp only [Act.put, List.setIfInBounds_toArray, List.set_cons_zero, List.set_cons_succ, i64_w, i32_w]
              rfl
            refine take_ (i := 5) (N := some 59) (v := ?_) (a' := ?_) #[true, true, false, true, true, true, false, false] rfl rfl (by kernel_rfl) (fun _ _ _ h => h) (Or.inl ⟨by rfl, ?_⟩) hHeld ?_ ?_
            rotate_left
            · rintro w' s0
              refine (UF.exec_cut 24 21 Tryd.underlying24 (.tmp 57) (.tmp 58) rfl (.slice A3 M.length c3) _ rfl (N : Int) rfl (hcut _)).trans ?_
              with_reducible rfl
            rotate_left
            · simp only [Act.put, List.setIfInBounds_toArray, List.set_cons_zero, List.set_cons_succ, i64_w, i32_w]
              rfl
            refine one_ (i := 2) (N := some 56) #[true, true, true, true, true, true, false, false] rfl rfl (by kernel_rfl) (by decide) (fun K hK => ?_)
            refine goes_ Tryd.func48 (by kernel_rfl) rfl #[.pointer (some ⟨g, 0, none⟩), .slice B L.length cB] (by rfl) rfl rfl (by first | rfl | (simp only [List.map_toArray, List.map_cons, List.map_nil]; done) | (simp only [List.map_toArray, List.map_cons, List.map_nil]; rfl)) ?_
            refine (HFe.out _ hI3.drew hL3.drew hRL3).mono ?_
            rintro _ w4 ⟨v4, rfl, hX4, hI4, hL4, hK4⟩
            refine ⟨_, rfl, ?_⟩
            obtain ⟨A4, c4, rfl, hc4, hr4⟩ := Kd.R_reads hX4
            have hr2' := (UF.reads_keep Ho3.out (show g < w2.heap.size by omega) hK4)
            have hr3 := hrd _ hr2'.2.2
            refine hK.out _ _ (trivial) (fun hHeld => ?_)
            clear hK K
            refine norm_ (a' := ?_) ?_ ?_
            rotate_left
            · show Act.put _ (some 56) _ = _
              simp only [Act.put, List.setIfInBounds_toArray, List.set_cons_zero, List.set_cons_succ, i64_w, i32_w]
              rfl
            refine one_ (i := 6) (N := some 60) #[true, true, true, true, true, true, true, false] rfl rfl (by kernel_rfl) (by decide) (fun K hK => ?_)
            refine goes_ Tryd.func18 (by kernel_rfl) rfl #[.slice A4 X.length c4, .slice A5 X.length (c3 - N)] (by rfl) rfl rfl (by first | rfl | (simp only [List.map_toArray, List.map_cons, List.map_nil]; done) | (simp only [List.map_toArray, List.map_cons, List.map_nil]; rfl)) ?_
            refine (runes_same X A4 A5 c4 (c3 - N) _ (Kd.reads_of_C (enc := Value.int .i32) (d := (0 : Int)) (h1 := fun _ => rfl) hr4) hr3).mono ?_
            rintro _ w5 ⟨rfl, n5, rfl⟩
            refine ⟨_, rfl, ?_⟩
            refine hK.out _ _ (trivial) (fun hHeld => ?_)
            clear hK K
            refine norm_ (a' := ?_) ?_ ?_
            rotate_left
            · show Act.put _ (some 60) _ = _
              simp only [Act.put, List.setIfInBounds_toArray, List.set_cons_zero, List.set_cons_succ, i64_w, i32_w]
              rfl
            refine pure_ (i := 7) (N := some 61) (v := ?_) (a' := ?_) #[true, true, true, true, true, true, true, true] rfl rfl (by kernel_rfl) (fun _ _ _ h => h) (Or.inl ⟨by rfl, ?_⟩) ?_ ?_
            rotate_left
            · intro w'
              go_simp
              with_reducible rfl
            rotate_left
            · simp only [Act.put, List.setIfInBounds_toArray, List.set_cons_zero, List.set_cons_succ, i64_w, i32_w]
              rfl
            refine done_ (by kernel_rfl) ?_
            have hz4 : w3.heap.size ≤ w4.heap.size := hK4.1
            have Ho4 := Lib.hid (all_keep (W := w3.drew) Ho2.out hgl hK4)
            clear Ho2 Ho3 hcut hrd hr4 hr3 hr2' hX4 hcap5 hi1 hz11 hz12 hz13
            go_wp2_with (go_at_call 47; go_loud ((with_reducible refine (scalar_UnitDecoder_Held.calls g 0 0 (0 != 0) 0 w0 _ (hI4.drewN n5) (below_drewN hL4 n5) rfl).mono ?_); rintro e w6 ⟨rfl, hI6, hL6, hK6⟩; have Ho6 := Lib.hid (all_keep (W := w4.drewN n5) Ho4.out hgl hK6); have hz6 : w4.heap.size ≤ w6.heap.size := hK6.1; skip))
            exact ⟨⟨k + 1, (M.length : Int), (some ad2), c2, rfl, by omega, by first | (rw [Hal.out]; done) | (rw [Hal.out]; rfl), rfl, Hnew (some ad2) c2 _ w6 rfl hI6 hL6 Ho6.out (by omega)⟩, by simp [intOf]; omega⟩
    · obtain rfl : k = ls.length := by omega
      have hend := fedU_end (catL ls ls.length)
      have hrg : ∀ x ∈ catL ls ls.length, 0 ≤ x ∧ x ≤ 65535 := fun x hx => HRR.out x (catL_mem ls ls.length x hx)
      generalize catL ls ls.length = a at *
      obtain ⟨X, hX⟩ : ∃ X : List Int, (if heldU a = 0 then [] else [65533]) = X := ⟨_, rfl⟩
      rw [hX] at hend
      have hE : scalar_UnitDecoder_End.f (heldU a) = some (X, 0) := by
        unfold scalar_UnitDecoder_End.f
        rw [← hX]
        by_cases h : heldU a = 0
        · rw [if_pos h, if_pos h, h]
        · rw [if_neg h, if_neg h]
      have HEn := Lib.hid (scalar_UnitDecoder_End.calls g (heldU a) X 0 w0 wr hst hlow hE)
      have hrf := fun (A : Option Addr) (c : Nat) (W : World) (hc : a.length ≤ c) (R : ReadsInt W .u16 A a.length a) => rfrm_call a a.length A c W rfl hrg (by omega) hc R
      have hsl := sure_len a
      have hfl := frmU_len a.length a (Nat.le_refl _)
      obtain ⟨N, hN⟩ : ∃ N, (frmU (sureU a)).length = N := ⟨_, rfl⟩
      rw [hN] at htold
      subst htold
      obtain ⟨M, hM⟩ : ∃ M, frmU a = M := ⟨_, rfl⟩
      rw [hM] at hend hfl
      simp only [hM] at hrf
      have hMX : M.drop N = X := by rw [hend, ← hN, List.drop_left]
      have hNM : N ≤ M.length := by rw [hend, List.length_append]; omega
      have HMX := Lib.hid hMX
      have HRF := Lib.hid hrf
      have HOW := Lib.hid hown
      have hac := own_le hown
      clear hrf hMX hM hN hend hX hE hst hlow hrg
      go_wp2_with (first
        | (go_at_call 49; go_loud ((with_reducible refine HEn.out.mono ?_); rintro e w1 ⟨v1, rfl, hX1, hI1, hL1, hK1⟩; obtain ⟨A4, c4, rfl, hc4, hr4⟩ := Kd.R_reads hX1; have Ho1 := Lib.hid (own_rdA (all_keep HOW.out hgl hK1))))
        | (go_at_call 42; go_loud ((with_reducible refine (HRF.out A c w1 hac Ho1.out).mono ?_); rintro e w2 ⟨A3, c3, rfl, ho3, hb3⟩; obtain ⟨i1, hi1, hz11, hz12, hz13⟩ := info_parts info21; have hcap := own_le ho3; obtain ⟨A5, hcut, hrd, hcap5⟩ := print_cut_int (P := Tryd.prog) (k := .i32) 24 21 Tryd.underlying24 hi1 hz12 A3 c3 M (N : Int) (by omega) (by omega) hcap; rw [Int.toNat_natCast, HMX.out] at hcut hrd hcap5; have hr3 := hrd _ (own_rdA ho3); have hr5 := ReadsInt.below (readsInt_of.2 (Kd.reads_of_C (enc := Value.int .i32) (d := (0 : Int)) (h1 := fun _ => rfl) hr4)) hb3; have hI2 := hI1.below hb3; have hL2 := below_after hL1 hb3))
        | (go_at_call 18; go_loud ((with_reducible refine (runes_same X A4 A5 c4 (c3 - N) _ hr5 hr3).mono ?_); rintro e w4 ⟨rfl, n4, rfl⟩)))
      go_ret
      exact ⟨rfl, hI2.drewN n4, below_drewN hL2 n4⟩
end Go.Proofs.YtgippjhkimohlaaDoor
