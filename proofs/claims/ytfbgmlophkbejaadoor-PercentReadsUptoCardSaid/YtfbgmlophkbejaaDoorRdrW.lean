/- PercentReads: the walk. -/
import Derived.Test.YtfbgmlophkbejaaDoorRdrC
import Derived.Test.YtfbgmlophkbejaaDoorQPfax3
import Derived.Test.YtfbgmlophkbejaaDoorQPfax6
import Derived.Test.YtfbgmlophkbejaaDoorQPfax2
import Derived.Test.YtfbgmlophkbejaaDoorQPfax0
set_option linter.unusedVariables false
set_option linter.unusedSimpArgs false
namespace Go.Proofs.YtfbgmlophkbejaaDoor
open Go.RowKit Go.Proofs.YtfbgmlophkbejaaDoorW.PrintWords Go.Proofs.YtfbgmlophkbejaaDoorW.PrintLast Go.Proofs.YtfbgmlophkbejaaDoorQ.Pfa
namespace FC
theorem RowF.made (W : World) (B : Nat) (hB : B = W.heap.size) : RowF (W.alloc (.cells #[] 46)) B (.slice (some ⟨B, 0, none⟩) 0 0) [] := by
  subst hB
  exact ⟨fun _ _ => trivial, [], World.ownsRow_made W #[] 0 (Nat.le_refl _) (Nat.zero_le _) rfl, Reps.none _ _⟩
set_option maxRecDepth 100000 in
set_option maxHeartbeats 40000000 in
theorem percentReads_any (l m : List ByteArray) (Ap Bp : Option Addr) (cp dp : Nat) (w : World) (hR : ReadsOf Value.string ByteArray.empty w Ap l.length l) (hQ : ReadsOf Value.string ByteArray.empty w Bp m.length m) (hs : sizeS l ≤ 1048576) (hn : l.length ≤ 1048576) (hs2 : sizeS m ≤ 1048576) (hn2 : m.length ≤ 1048576) (T : TabM w) :
    Calls Tryd.prog 6 #[.slice Ap l.length cp, .slice Bp m.length dp] w fun e w' => e = .returned (.bool true) ∧ Below w.heap.size w w' := by
  have HR := Lib.hid hR
  have HQ := Lib.hid hQ
  have HT := Lib.hid T
  clear hR hQ T
  have hbel := below_alloc (below_one w (.cells #[.string ByteArray.empty] 98)) (.cells #[.string ByteArray.empty] 98)
  go_enter Tryd.func6, Tryd.ntmps6
  go_wp2_with (first
    | (go_at_call 27; (with_reducible refine (New_any _).mono ?_); rintro e w1 ⟨rfl, rfl⟩)
    | (go_at_call 9; (with_reducible refine (posternlaw03_awake.calls true _ rfl).mono ?_); rintro e w2 ⟨rfl, hb2⟩)
    | (go_at_call 28; (with_reducible refine (Feed_nil _ _).mono ?_); rintro e w3 ⟨rfl, hb3⟩)
    | (go_at_call 29; (with_reducible refine (End_nil _).mono ?_); rintro e w4 ⟨rfl, hb4⟩))
  have hB1 : IsS98 w w4 w.heap.size (ba []) := ⟨(((((Blk.new _ _ _).alloc _).after hb2).after hb3).after hb4), Nat.le_refl _⟩
  have hB2 : IsS98 w w4 (w.heap.size + 1) (ba []) := ⟨((((Blk.at_new (by simp)).after hb2).after hb3).after hb4), by omega⟩
  have hL0 : Below w.heap.size w w4 := below_after (below_after (below_after hbel hb2) hb3) hb4
  clear hb2 hb3 hb4 hbel
  obtain ⟨g, hg⟩ : ∃ g, w.heap.size = g := ⟨_, rfl⟩
  have hgle : w.heap.size ≤ g := by omega
  rw [hg] at hB1 hB2
  simp only [hg]
  clear hg
  go_loopw [8] (fun i wr => ∃ r : Nat, i = .int .i64 (r : Int) ∧ r ≤ 2 ∧ IsS98 w wr g (ba []) ∧ IsS98 w wr (g + 1) (ba []) ∧ Below w.heap.size w wr) (fun i _ => 2 - (intOf i).toNat)
  case atStart => exact ⟨0, rfl, by omega, hB1, hB2, hL0⟩
  case round =>
    clear hB1 hB2 hL0
    obtain ⟨r, rfl, hr, hB1, hB2, hL⟩ := hrel
    obtain ⟨wo, rfl⟩ : ∃ wo : World, wo = wr := ⟨_, rfl⟩
    by_cases hlt : r < 2
    · have hg1 := hB1.lt
      have hg2 := hB2.lt
      obtain ⟨B, hB⟩ : ∃ B, wo.heap.size = B := ⟨_, rfl⟩
      have hwB : w.heap.size ≤ B := by have := hL.size; omega
      have hgB0 : g < B := by omega
      have hgB2 : g + 1 < B := by omega
      have HI1 := Lib.hid hB1
      have HI2 := Lib.hid hB2
      have HL := Lib.hid hL
      clear hB1 hB2 hL
      go_wp2
      have hx0 : RowF ((wo.alloc (.cells #[] 46)).alloc (.cells #[] 46)) B (.slice (some ⟨B, 0, none⟩) 0 0) [] := (RowF.made wo B hB.symm).below (below_one _ _)
      have hy0 : RowF ((wo.alloc (.cells #[] 46)).alloc (.cells #[] 46)) B (.slice (some ⟨B + 1, 0, none⟩) 0 0) [] := Kd.R_lower (RowF.made _ (B + 1) (by simp; omega)) (by omega)
      have hst1 : Hid (RdAt l w B g 0 [] (.slice (some ⟨B, 0, none⟩) 0 0) ((wo.alloc (.cells #[] 46)).alloc (.cells #[] 46))) := Lib.hid ⟨[], ⟨[], Or.inl rfl, by simp, by rw [catS_zero]; rfl, FL_nil.symm⟩, (HI1.out.alloc _).alloc _, hx0⟩
      have hst2 : Hid (RdAt m w B (g + 1) 0 [] (.slice (some ⟨B + 1, 0, none⟩) 0 0) ((wo.alloc (.cells #[] 46)).alloc (.cells #[] 46))) := Lib.hid ⟨[], ⟨[], Or.inl rfl, by simp, by rw [catS_zero]; rfl, FL_nil.symm⟩, (HI2.out.alloc _).alloc _, hy0⟩
      have hL0 := below_alloc (below_alloc HL.out (.cells #[] 46)) (.cells #[] 46)
      clear hx0 hy0
      have hdr : decide ((r : Int) < 2) = true := decide_eq_true (by omega)
      simp only [hdr]
      clear hdr
      go_loopw [9, 10, 11, 12, 13] (fun p q x y i wr => ∃ (k : Nat) (X Y : List (ByteArray × ByteArray)), i = .int .i64 (k : Int) ∧ (k ≤ l.length ∨ k ≤ m.length) ∧ p = .string (catS l k) ∧ q = .string (catS m k) ∧ Hid (RdAt l w B g k X x wr) ∧ Hid (RdAt m w B (g + 1) k Y y wr) ∧ Hid (Dist x y) ∧ Below w.heap.size w wr ∧ B ≤ wr.heap.size) (fun _ _ _ _ i _ => l.length + m.length - (intOf i).toNat)
      case atStart => exact ⟨0, [], [], rfl, by omega, rfl, rfl, hst1, hst2, Lib.hid (fun q hq h2 => by simp [Value.ownBlock] at hq h2; omega), hL0, by simp; omega⟩
      case round =>
        clear hst1 hst2 hL0 hB HI1 HI2 HL hg1 hg2
        obtain ⟨k, X, Y, rfl, hk, rfl, rfl, hX, hY, hD, hL, hBw⟩ := hrel
        have hzl := catS_size l k
        have hzm := catS_size m k
        obtain ⟨Kx, px, ix, ox⟩ := hX.out
        obtain ⟨Ky, py, iy, oy⟩ := hY.out
        have oxl := px.len.1
        have oyl := py.len.1
        have hgB : g < B := hgB0
        have hgB1 : g + 1 < B := hgB2
        by_cases h1 : k < l.length
        · obtain ⟨s1, Z1, K1', c1, z1, z1', a1, P1', f1⟩ := rd_call l w B g k X u11 wr h1 hs HT.out hX.out
          obtain ⟨ad, rfl, e0⟩ := (HR.out.below hL).at_ k (by omega) (by omega)
          simp only [rdOf, Int.toNat_natCast] at e0
          have He0 := Lib.hid (fun W (h : Below w.heap.size w W) => str_at (HR.out.below h) k h1)
          obtain ⟨n5, hn5, S1', S2'⟩ := rd_sure l (k + 1) (X ++ Z1) K1' hs P1'
          have hXZ : (X ++ Z1).length ≤ 1073741824 := by rw [List.length_append]; omega
          generalize l.getD k ByteArray.empty = t1 at *
          rw [← a1] at S1' S2' hn5
          have F1 := Lib.hid f1
          have A1' := Lib.hid a1
          have PX := Lib.hid P1'
          have S1 := Lib.hid S1'
          have S2 := Lib.hid S2'
          clear f1 a1 P1' S1' S2'
          by_cases h2 : k < m.length
          · obtain ⟨s2, Z2, K2', c2, z2, z2', a2, P2', f2⟩ := rd_call m w B (g + 1) k Y u12 wr h2 hs2 HT.out hY.out
            obtain ⟨bd, rfl, -⟩ := (HQ.out.below hL).at_ k (by omega) (by omega)
            have Hd0 := Lib.hid (fun W (h : Below w.heap.size w W) => str_at (HQ.out.below h) k h2)
            generalize m.getD k ByteArray.empty = t2 at *
            have F2 := Lib.hid f2
            have A2' := Lib.hid a2
            have PY := Lib.hid P2'
            clear f2 a2 P2' hX hY
            go_upto_region 16 with (first
              | (go_at_call 28; (with_reducible refine (F1.out _ c1 hL).mono ?_); rintro e w1 ⟨v1, rfl, hZ1, hC1, hL1, hk1⟩; obtain ⟨P1, q1, rfl, hq1, hr1⟩ := hZ1.reads; have ox1 := ox.keep hgB hk1; have oy1 := oy.keep hgB hk1; have d1 := isR_keep c2 hk1 (by omega); have hs1 := keep_size hk1; have K1 := Lib.hid hk1; clear hk1)
              | (at_builtin; refine app_flds (W := w1) B rfl (.tmp 74) (.tmp 80) rfl _ X Z1 P1 _ q1 rfl rfl ox1 hr1 (by omega) (by omega) ?_; intro va w2 ox2 hb2 hg2 hat2; have hC2 := isR_other hC1 hg2 (far_row ox1 hgB); have d2 := isR_other d1 hg2 (far_row ox1 hgB1); have oy2 := oy1.other hg2 hD.out.row; have hD2 := hD.out.grown hat2 oy1; have hL2 := below_app hL1 hb2 hwB; have hs2' := hb2.size; have e2 := He0.out _ hL2; have dd2 := Hd0.out _ hL2; have G2 := Lib.hid hg2; have At2 := Lib.hid hat2; clear hg2 hat2))
            go_upto_region 19 with (first
              | (go_at_call 28; (with_reducible refine (F2.out _ d2 hL2).mono ?_); rintro e w3 ⟨v3, rfl, hZ3, hC3, hL3, hk3⟩; obtain ⟨P3, q3, rfl, hq3, hr3⟩ := hZ3.reads; have ox3 := ox2.keep hgB1 hk3; have oy3 := oy2.keep hgB1 hk3; have hC4 := isR_keep hC2 hk3 (by omega); have hs3' := keep_size hk3; have K3 := Lib.hid hk3; clear hk3)
              | (at_builtin; refine app_flds (W := w3) B rfl (.tmp 92) (.tmp 98) rfl _ Y Z2 P3 _ q3 rfl rfl oy3 hr3 (by omega) (by omega) ?_; intro vb w4 oy4 hb4 hg4 hat4; have hC5 := isR_other hC4 hg4 (far_row oy3 hgB); have d5 := isR_other hC3 hg4 (far_row oy3 hgB1); have ox4 := ox3.other hg4 hD2.symm.row; have hD4 := (hD2.symm.grown hat4 ox3).symm; have hL4 := below_app hL3 hb4 hwB; have hs4' := hb4.size; have dd4 := Hd0.out _ hL4; have G4 := Lib.hid hg4; have At4 := Lib.hid hat4; clear hg4 hat4))
            generalize catS l k ++ t1 = pa at *
            generalize X ++ Z1 = XZ at *
            obtain ⟨Aa, ca, rfl, hca, hra0⟩ := ox4.reads
            have Hra := Lib.hid hra0
            clear hra0
            go_wp2_with (first
              | (go_at_call 30; (with_reducible refine (S1.out _).mono ?_); rintro e w5 ⟨v5, rfl, hb5⟩; have ox5 := ox4.below hb5; have oy5 := oy4.below hb5; have hC6 := hC5.below hb5; have d6 := d5.below hb5; have hL5 := below_after hL4 hb5)
              | (go_at_call 30; (with_reducible refine (S2.out _).mono ?_); rintro e w6 ⟨v6, m6, rfl, hr6, hb6⟩; obtain ⟨A6, c6, rfl, hq6, hm6⟩ := rowR_reads hr6; have ox6 := ox5.below hb6; have oy6 := oy5.below hb6; have hC7 := hC6.below hb6; have d7 := d6.below hb6; have hL6 := below_after hL5 hb6; have hra := Kd.C_below (Kd.C_below Hra.out hb5) hb6)
              | (go_at_call 23; (with_reducible refine (same_any _ hXZ _ _ _ _ _ hra hca hm6 hq6).mono ?_); rintro e w7 ⟨rfl, n7⟩; have hb7 := n7.below; have ox7 := ox6.below hb7; have oy7 := oy6.below hb7; have hC8 := hC7.below hb7; have d8 := d7.below hb7; have hL7 := below_after hL6 hb7; have hs7 : B ≤ w7.heap.size := by have := hb7.size; have := hb6.size; have := hb5.size; omega))
            exact ⟨⟨k + 1, XZ, Y ++ Z2, rfl, by omega, by rw [A1'.out], by rw [A2'.out], Lib.hid ⟨K1', PX.out, hC8, ox7⟩, Lib.hid ⟨K2', PY.out, d8, oy7⟩, Lib.hid hD4, hL7, hs7⟩, by simp [intOf]; omega⟩
          · have HY := hY
            clear hX hY
            go_upto_region 19 with (first
              | (go_at_call 28; (with_reducible refine (F1.out _ c1 hL).mono ?_); rintro e w1 ⟨v1, rfl, hZ1, hC1, hL1, hk1⟩; obtain ⟨P1, q1, rfl, hq1, hr1⟩ := hZ1.reads; have ox1 := ox.keep hgB hk1; have oy1 := oy.keep hgB hk1; have d1 := isR_keep iy hk1 (by omega); have hs1 := keep_size hk1; have K1 := Lib.hid hk1; clear hk1)
              | (at_builtin; refine app_flds (W := w1) B rfl (.tmp 74) (.tmp 80) rfl _ X Z1 P1 _ q1 rfl rfl ox1 hr1 (by omega) (by omega) ?_; intro va w2 ox2 hb2 hg2 hat2; have hC2 := isR_other hC1 hg2 (far_row ox1 hgB); have d2 := isR_other d1 hg2 (far_row ox1 hgB1); have oy2 := oy1.other hg2 hD.out.row; have hD2 := hD.out.grown hat2 oy1; have hL2 := below_app hL1 hb2 hwB; have hs2' := hb2.size; have e2 := He0.out _ hL2;  have G2 := Lib.hid hg2; have At2 := Lib.hid hat2; clear hg2 hat2))
            generalize catS l k ++ t1 = pa at *
            generalize X ++ Z1 = XZ at *
            have hcm : catS m (k + 1) = catS m k := by rw [catS_all m k (by omega), catS_all m (k + 1) (by omega)]
            have Hcm := Lib.hid hcm
            clear hcm
            obtain ⟨Aa, ca, rfl, hca, hra0⟩ := ox2.reads
            have Hra := Lib.hid hra0
            clear hra0
            go_wp2_with (first
              | (go_at_call 30; (with_reducible refine (S1.out _).mono ?_); rintro e w5 ⟨v5, rfl, hb5⟩; have ox5 := ox2.below hb5; have oy5 := oy2.below hb5; have hC6 := hC2.below hb5; have d6 := d2.below hb5; have hL5 := below_after hL2 hb5)
              | (go_at_call 30; (with_reducible refine (S2.out _).mono ?_); rintro e w6 ⟨v6, m6, rfl, hr6, hb6⟩; obtain ⟨A6, c6, rfl, hq6, hm6⟩ := rowR_reads hr6; have ox6 := ox5.below hb6; have oy6 := oy5.below hb6; have hC7 := hC6.below hb6; have d7 := d6.below hb6; have hL6 := below_after hL5 hb6; have hra := Kd.C_below (Kd.C_below Hra.out hb5) hb6)
              | (go_at_call 23; (with_reducible refine (same_any _ hXZ _ _ _ _ _ hra hca hm6 hq6).mono ?_); rintro e w7 ⟨rfl, n7⟩; have hb7 := n7.below; have ox7 := ox6.below hb7; have oy7 := oy6.below hb7; have hC8 := hC7.below hb7; have d8 := d7.below hb7; have hL7 := below_after hL6 hb7; have hs7 : B ≤ w7.heap.size := by have := hb7.size; have := hb6.size; have := hb5.size; omega))
            obtain ⟨A3, q3, q3b, q3c, q3d⟩ := py
            exact ⟨⟨k + 1, XZ, Y, rfl, by omega, by rw [A1'.out], by rw [Hcm.out], Lib.hid ⟨K1', PX.out, hC8, ox7⟩, Lib.hid ⟨Ky, ⟨A3, q3, q3b, by rw [Hcm.out]; exact q3c, q3d⟩, d8, oy7⟩, Lib.hid hD2, hL7, hs7⟩, by simp [intOf]; omega⟩
        · by_cases h2 : k < m.length
          · obtain ⟨s2, Z2, K2', c2, z2, z2', a2, P2', f2⟩ := rd_call m w B (g + 1) k Y u12 wr h2 hs2 HT.out hY.out
            obtain ⟨bd, rfl, e0⟩ := (HQ.out.below hL).at_ k (by omega) (by omega)
            simp only [rdOf, Int.toNat_natCast] at e0
            have Hd0 := Lib.hid (fun W (h : Below w.heap.size w W) => str_at (HQ.out.below h) k h2)
            obtain ⟨n5, hn5, S1', S2'⟩ := rd_sure l k X Kx hs px
            have hXZ : X.length ≤ 1073741824 := by omega
            generalize m.getD k ByteArray.empty = t2 at *
            have F2 := Lib.hid f2
            have A2' := Lib.hid a2
            have PY := Lib.hid P2'
            have S1 := Lib.hid S1'
            have S2 := Lib.hid S2'
            obtain ⟨Ax, pxa, pxb, pxc, pxd⟩ := px
            have PX := Lib.hid pxc
            have PXd := Lib.hid pxd
            have hcl : catS l (k + 1) = catS l k := by rw [catS_all l k (by omega), catS_all l (k + 1) (by omega)]
            have Hcl := Lib.hid hcl
            clear f2 a2 P2' hX hY S1' S2' pxc pxd hcl
            generalize hpa : catS l k = pa at *
            have Hpa := Lib.hid hpa
            clear hpa
            go_upto_region 19 with (first
              | (go_at_call 28; (with_reducible refine (F2.out _ c2 hL).mono ?_); rintro e w3 ⟨v3, rfl, hZ3, hC3, hL3, hk3⟩; obtain ⟨P3, q3, rfl, hq3, hr3⟩ := hZ3.reads; have ox3 := ox.keep hgB1 hk3; have oy3 := oy.keep hgB1 hk3; have hC4 := isR_keep ix hk3 (by omega); have hs3' := keep_size hk3; have K3 := Lib.hid hk3; clear hk3)
              | (at_builtin; refine app_flds (W := w3) B rfl (.tmp 92) (.tmp 98) rfl _ Y Z2 P3 _ q3 rfl rfl oy3 hr3 (by omega) (by omega) ?_; intro vb w4 oy4 hb4 hg4 hat4; have hC5 := isR_other hC4 hg4 (far_row oy3 hgB); have d5 := isR_other hC3 hg4 (far_row oy3 hgB1); have ox4 := ox3.other hg4 hD.out.symm.row; have hD4 := (hD.out.symm.grown hat4 ox3).symm; have hL4 := below_app hL3 hb4 hwB; have hs4' := hb4.size; have dd4 := Hd0.out _ hL4; have G4 := Lib.hid hg4; have At4 := Lib.hid hat4; clear hg4 hat4))
            obtain ⟨Aa, ca, rfl, hca, hra0⟩ := ox4.reads
            have Hra := Lib.hid hra0
            clear hra0
            go_wp2_with (first
              | (go_at_call 30; (with_reducible refine (S1.out _).mono ?_); rintro e w5 ⟨v5, rfl, hb5⟩; have ox5 := ox4.below hb5; have oy5 := oy4.below hb5; have hC6 := hC5.below hb5; have d6 := d5.below hb5; have hL5 := below_after hL4 hb5)
              | (go_at_call 30; (with_reducible refine (S2.out _).mono ?_); rintro e w6 ⟨v6, m6, rfl, hr6, hb6⟩; obtain ⟨A6, c6, rfl, hq6, hm6⟩ := rowR_reads hr6; have ox6 := ox5.below hb6; have oy6 := oy5.below hb6; have hC7 := hC6.below hb6; have d7 := d6.below hb6; have hL6 := below_after hL5 hb6; have hra := Kd.C_below (Kd.C_below Hra.out hb5) hb6)
              | (go_at_call 23; (with_reducible refine (same_any _ hXZ _ _ _ _ _ hra hca hm6 hq6).mono ?_); rintro e w7 ⟨rfl, n7⟩; have hb7 := n7.below; have ox7 := ox6.below hb7; have oy7 := oy6.below hb7; have hC8 := hC7.below hb7; have d8 := d7.below hb7; have hL7 := below_after hL6 hb7; have hs7 : B ≤ w7.heap.size := by have := hb7.size; have := hb6.size; have := hb5.size; omega))
            exact ⟨⟨k + 1, X, Y ++ Z2, rfl, by omega, by rw [Hcl.out], by rw [A2'.out], Lib.hid ⟨Kx, RdP.stay ⟨Ax, pxa, pxb, PX.out, PXd.out⟩ Hcl.out, hC8, ox7⟩, Lib.hid ⟨K2', PY.out, d8, oy7⟩, Lib.hid hD4, hL7, hs7⟩, by simp [intOf]; omega⟩
          · obtain ⟨s1, Z1, c1, x1, f1, r1⟩ := rd_end l w B g k X u11 wr hs HT.out hX.out
            obtain ⟨s2, Z2, c2, x2, f2, r2⟩ := rd_end m w B (g + 1) k Y u12 wr hs2 HT.out hY.out
            have F1 := Lib.hid f1
            have F2 := Lib.hid f2
            have R1 := Lib.hid r1
            have R2 := Lib.hid r2
            have hX1 : (X ++ Z1).length ≤ 1073741824 := by rw [List.length_append]; omega
            have hY1 : (Y ++ Z2).length ≤ 1073741824 := by rw [List.length_append]; omega
            clear f1 f2 r1 r2 hX hY px py
            generalize catS l k = pa at *
            generalize catS m k = pb at *
            generalize hXX : X ++ Z1 = XX at *
            generalize hYY : Y ++ Z2 = YY at *
            have HXX := Lib.hid hXX
            have HYY := Lib.hid hYY
            clear hXX hYY
            have hww := hBw
            go_upto_region 25 with (first
              | (go_at_call 30; (with_reducible refine (R1.out _).mono ?_); rintro e w1 ⟨v1, m1, rfl, hr1, hb1⟩; have hr1' : RowR w1 wr.heap.size v1 XX := hr1; have ox1 := ox.below hb1; have oy1 := oy.below hb1; have c1a := c1.below hb1; have c2a := c2.below hb1; have hL1 := below_after hL hb1; have xs1 := hb1.size)
              | (go_at_call 30; (with_reducible refine (R2.out _).mono ?_); rintro e w2 ⟨v2, m2, rfl, hr2, hb2⟩; have hr2' : RowR w2 w1.heap.size v2 YY := hr2; have hr12 := hr1'.below hb2; have ox2 := ox1.below hb2; have oy2 := oy1.below hb2; have c1b := c1a.below hb2; have c2b := c2a.below hb2; have hL2 := below_after hL1 hb2; have xs2 := hb2.size))
            have e1x : Dist u11 v1 := dist_new ox hr1' (Nat.le_refl _)
            have e1y : Dist u12 v1 := dist_new oy hr1' (Nat.le_refl _)
            have e2x : Dist u11 v2 := dist_new ox1 hr2' (Nat.le_refl _)
            have e2y : Dist u12 v2 := dist_new oy1 hr2' (Nat.le_refl _)
            have E1x := Lib.hid e1x
            have E2x := Lib.hid e2x
            have E2y := Lib.hid e2y
            clear e1x e1y e2x e2y hr1 hr2 hr1'
            go_wp2_with (first
              | (go_at_call 29; ((with_reducible refine (F1.out _ c1b hL2).mono ?_); rintro e w3 ⟨v3, rfl, hZ3, c1c, hL3, hk3⟩; obtain ⟨P3, q3, rfl, hq3, hp3⟩ := hZ3.reads; have ox3 := ox2.keep hgB hk3; have oy3 := oy2.keep hgB hk3; have c2c := isR_keep c2b hk3 (by omega); have m1c := hr12.keep (by omega) hk3; have m2c := hr2'.keep (by omega) hk3; have hs3 := keep_size hk3; have K3 := Lib.hid hk3; clear hk3))
              | (at_builtin; (refine app_flds (W := w3) B rfl (.tmp 126) (.tmp 128) rfl _ X Z1 P3 _ q3 rfl rfl ox3 hp3 (by omega) (by omega) ?_; intro va w4 ox4 hb4 hg4 hat4; rw [HXX.out] at ox4; have c1d := isR_other c1c hg4 (far_row ox3 hgB); have c2d := isR_other c2c hg4 (far_row ox3 hgB1); have oy4 := oy3.other hg4 hD.out.row; have m1d := m1c.other hg4 E1x.out.row; have m2d := m2c.other hg4 E2x.out.row; have hL4 := below_app hL3 hb4 hwB; have hs4 := hb4.size; obtain ⟨Aa, ca, rfl, hca, hra⟩ := ox4.reads; obtain ⟨Ab, cb, rfl, hcb, hrb⟩ := rowR_reads m1d; have G4 := Lib.hid hg4; have At4 := Lib.hid hat4; clear hg4 hat4))
              | (go_at_call 23; ((with_reducible refine (same_any _ hX1 _ _ _ _ _ hra hca hrb hcb).mono ?_); rintro e w5 ⟨rfl, n5⟩; have hb5 := n5.below; have oy5 := oy4.below hb5; have m2e := m2d.below hb5; have c1e := c1d.below hb5; have c2e := c2d.below hb5; have hL5 := below_after hL4 hb5; have hs5 := hb5.size))
              | (go_at_call 29; ((with_reducible refine (F2.out _ c2e hL5).mono ?_); rintro e w6 ⟨v6, rfl, hZ6, c2f, hL6, hk6⟩; obtain ⟨P6, q6, rfl, hq6, hp6⟩ := hZ6.reads; have oy6 := oy5.keep hgB1 hk6; have c1f := isR_keep c1e hk6 (by omega); have m2f := m2e.keep (by omega) hk6; have hs6 := keep_size hk6; have K6 := Lib.hid hk6; clear hk6))
              | (at_builtin; (refine app_flds_g (W := w6) B (by rfl) (.tmp 134) (.tmp 136) rfl _ Y Z2 P6 _ q6 rfl rfl oy6 hp6 (by omega) (by omega) ?_; intro vb w7 oy7 hb7 hg7 hat7; rw [HYY.out] at oy7; have c1g := isR_other c1f hg7 (far_row oy6 hgB); have c2g := isR_other c2f hg7 (far_row oy6 hgB1); have m2g := m2f.other hg7 E2y.out.row; have hL7 := below_app hL6 hb7 hwB; have hs7 := hb7.size; obtain ⟨Ac, cc, rfl, hcc, hrc⟩ := oy7.reads; obtain ⟨Ad, cd, rfl, hcd, hrd⟩ := rowR_reads m2g; have G7 := Lib.hid hg7; have At7 := Lib.hid hat7; clear hg7 hat7))
              | (go_at_call 23; ((with_reducible refine (same_any _ hY1 _ _ _ _ _ hrc hcc hrd hcd).mono ?_); rintro e w8 ⟨rfl, n8⟩; have hb8 := n8.below; have c1h := c1g.below hb8; have c2h := c2g.below hb8; have hL8 := below_after hL7 hb8)))
            exact ⟨⟨r + 1, by simp, by omega, c1h, c2h, hL8⟩, by simp [intOf]; omega⟩
    · obtain rfl : r = 2 := by omega
      go_wp2
      go_ret
      exact ⟨rfl, hL⟩
end FC
end Go.Proofs.YtfbgmlophkbejaaDoor
