/- Scalar: Escape, by the program. -/
import Derived.Test.YtgippjhkimohlaaDoorCmpA
import Derived.Test.YtgippjhkimohlaaDoorQScbx0
set_option linter.unusedVariables false
set_option linter.unusedSimpArgs false
namespace Go.Proofs.YtgippjhkimohlaaDoor
open Go.RowKit Go.Proofs.YtgippjhkimohlaaDoorW.PrintWords Go.Proofs.YtgippjhkimohlaaDoorW.PrintLast Go.Proofs.YtgippjhkimohlaaDoorQ.Scb
theorem own_others {w w' : World} {base b : Nat} {e : TypeId} {v : Value} {n : Nat} {xs : List Value} (h : w.ownsRow base e 1 v n xs) (hk : Lib.OthersKept 5 (some b) w w') (he : e ≠ 5) (hb : b < base) : w'.ownsRow base e 1 v n xs := by
  refine ⟨h.1, ?_⟩
  rcases h.2 with hn | ⟨g, cap, cur, hv, hg, hh, rest⟩
  · exact .inl hn
  · refine .inr ⟨g, cap, cur, hv, hg, hk g _ hh (fun e => by injection e with e; omega) (fun c fz e2 => by injection e2 with _ e2; exact he e2), rest⟩
theorem own_rd {w : World} {base n c : Nat} {A : Option Addr} {e : TypeId} {k : IntKind} {xs : List Int} (h : w.ownsRow base e 1 (.slice A n c) n (nums k xs)) : ReadsInt w k A n xs := by
  obtain ⟨A2, c2, e2, h2⟩ := own_reads h
  injection e2 with e3 e4 e5
  subst e3
  exact h2
theorem own_down {w : World} {base base' n : Nat} {e : TypeId} {v : Value} {xs : List Value} (h : w.ownsRow base e 1 v n xs) (hb : base' ≤ base) : w.ownsRow base' e 1 v n xs := by
  refine ⟨h.1, ?_⟩
  rcases h.2 with hn | ⟨g, cap, cur, hv, hg, rest⟩
  · exact .inl hn
  · exact .inr ⟨g, cap, cur, hv, Nat.le_trans hb hg, rest⟩
theorem and15u (x : Int) (h0 : 0 ≤ x) (h1 : x ≤ 65535) : Go.bits .and .u16 x 15 = x % 16 := bits_mask .u16 16 (by decide) (fun n h0 h1 => by rw [IntKind.wrap_u16]; omega) 4 (by decide) x h0 (by omega)
/-- a unit's four digits -/
def hexU (u : Int) : List Int := [bt hexT (u / 4096), bt hexT (u / 256 % 16), bt hexT (u / 16 % 16), bt hexT (u % 16)]
theorem escU_hex (u : Int) : escU u = [92, 117] ++ hexU u := rfl
set_option maxRecDepth 100000 in
set_option maxHeartbeats 8000000 in
theorem Escape_any (s : ByteArray) (w : World) (hs : s.size ≤ 1048576) (T : Tabs w) : Calls Tryd.prog 57 #[.string s] w fun e w' => e = .returned (.string (strOfNums (escL (decT s)))) ∧ Below w.heap.size w w' := by
  have hdl : (decT s).length ≤ s.size := by unfold decT; rw [List.length_map]; exact pcs_len s s.size 0 (by omega) (by omega)
  have hsc := decT_scal s
  have HD := Lib.hid (fun W (h : Below w.heap.size w W) => Decode_any s W (by omega) (Utf8Tabs_below T h))
  generalize decT s = l at *
  have Hsc := Lib.hid hsc
  have Hwr := Lib.hid writeRuneK
  have Hwb := Lib.hid writeByteK
  have Hws := Lib.hid writeStringK
  have Hst := Lib.hid stringF_any
  clear hsc
  have hB0 : BldF (w.alloc (.cells #[.pointer none, .slice none 0 0] 95)) w.heap.size w.heap.size [] := BldF.new w w.heap.size (Nat.le_refl _)
  have hb0 : Below w.heap.size w (w.alloc (.cells #[.pointer none, .slice none 0 0] 95)) := below_one _ _
  have hz0 : (w.alloc (.cells #[.pointer none, .slice none 0 0] 95)).heap.size = w.heap.size + 1 := by simp
  go_enter Tryd.func57, Tryd.ntmps57
  go_wp2_with (first
    | (go_at_call 19; (with_reducible refine (HD.out _ hb0).mono ?_); rintro e w1 ⟨hb1, v, rfl, ho⟩; obtain ⟨A1, c1, rfl⟩ := own_slice ho; have hB1 := (fun h => BldF.after h hb1) hB0; have hbel1 := below_after hb0 hb1))
  have HO := Lib.hid ho
  clear ho
  go_loopw [15] (fun i wr => ∃ k : Nat, i = .int .i64 (k : Int) ∧ k ≤ l.length ∧ BldF wr w.heap.size w.heap.size (escL (l.take k)) ∧ Below w.heap.size w wr ∧ Hid (wr.ownsRow (w.heap.size + 1) 21 1 (.slice A1 l.length c1) l.length (nums .i32 l))) (fun i _ => l.length - (intOf i).toNat)
  case atStart => exact ⟨0, rfl, by omega, hB1, hbel1, Lib.hid (own_down HO.out (by omega))⟩
  case round =>
    clear HO hB1 hbel1 hb1 hB0 hb0
    obtain ⟨k, rfl, hk, hB, hbel, hO⟩ := hrel
    have hz := hbel.size
    by_cases hlt : k < l.length
    · obtain ⟨ad, rfl, d0⟩ := (own_rd hO.out).at_ k (by omega) (by omega)
      simp only [Int.toNat_natCast] at d0
      have hsr : scal (rd l k) = true := Hsc.out _ (by
        have e : rd l k = l[k] := by simp [rd, List.getD_eq_getElem?_getD, List.getElem?_eq_getElem hlt]
        rw [e]; exact List.getElem_mem _)
      have he : escL (l.take (k + 1)) = escL (l.take k) ++ escB (rd l k) := by rw [take_rd l k hlt, escL_snoc]
      have hlen := escL_len (l.take k)
      have htl : (l.take k).length ≤ k := List.length_take_le _ _
      have Hrel := Lib.hid he
      generalize rd l k = r at *
      have hrr := (scal_iff r).1 hsr
      generalize escL (l.take k) = P at *
      clear he
      by_cases hq : 32 ≤ r ∧ r ≤ 126 ∧ r ≠ 92
      · obtain ⟨q0, q1, q2⟩ := hq
        have hqb : (r != 92) = true := bne_iff_ne.2 q2
        have hen : encB r = escB r := by
          unfold encB escB
          rw [if_pos (by omega), if_pos ⟨q0, q1, q2⟩]
        have HW := Lib.hid (fun W h hb => Hwr.out w.heap.size w.heap.size P r hsr W h (by omega) hb)
        rw [hen] at HW
        clear hen hsr
        go_wp2_with (go_at_call 63; (with_reducible refine (HW.out _ hB hz).mono ?_); rintro e w2 ⟨⟨v2, rfl⟩, hB2, hb2, hk2⟩)
        rw [← Hrel.out] at hB2
        exact ⟨⟨k + 1, rfl, by omega, hB2, hbel.trans hb2, Lib.hid (own_others hO.out hk2 (by decide) (by omega))⟩, by simp [intOf]; omega⟩
      · have heb : escB r = (untB r).flatMap escU := by unfold escB; rw [if_neg hq]
        have hX : scalar_Units.f 9000000000003 [r] = some (untB r, 0, 0) := by
          rw [Units_all [r] (fun x hx => by rw [List.mem_singleton.1 hx]; exact hsr) (by simp), untL_one]
        have hXl := untB_len r
        have hXr : ∀ x ∈ untB r, 0 ≤ x ∧ x ≤ 65535 := fun x hx => untL_range [r] (fun y hy => by rw [List.mem_singleton.1 hy]; exact hsr) x (by rw [untL_one]; exact hx)
        rw [heb] at Hrel
        generalize untB r = X at *
        have hlit : (wr.alloc (.cells #[.int .i32 r] 21)).ownsRow (w.heap.size + 1) 21 1 (.slice (some ⟨wr.heap.size, 0, none⟩) 1 1) 1 (nums .i32 [r]) := by
          have hlt2 : w.heap.size + 1 ≤ wr.heap.size := by have := hB.lt; omega
          exact own_lit wr (w.heap.size + 1) 21 .i32 [r] hlt2 (by simp)
        have hU : ∀ W, Kd.C (Kd.int .i32) W (some ⟨wr.heap.size, 0, none⟩) 1 [r] → Calls Tryd.prog 29 #[.slice (some ⟨wr.heap.size, 0, none⟩) 1 1] W fun e w' => ∃ v0_ : Value, e = .returned (.tuple #[v0_, .int .i64 0, .int .i64 0]) ∧ Kd.R (Kd.int .u16) 69 w' W.heap.size (fun _ => True) v0_ X ∧ Below W.heap.size W w' := fun W R => scalar_Units.calls 9000000000003 (some ⟨wr.heap.size, 0, none⟩) 1 [r] X 0 0 W R (by simp) hX
        have HU := Lib.hid hU
        have hC := C_of_ints (own_rd hlit)
        have hbA : Below w.heap.size w (wr.alloc (.cells #[.int .i32 r] 21)) := below_alloc hbel _
        have hBA : BldF (wr.alloc (.cells #[.int .i32 r] 21)) w.heap.size w.heap.size P := BldF.after hB (below_one _ _)
        have hOA := pw_own_below hO.out (below_one wr (.cells #[.int .i32 r] 21))
        have HXr := Lib.hid hXr
        clear hX heb hlit hsr hB hO hXr hU
        have hq3 : r < 32 ∨ 126 < r ∨ r = 92 := by omega
        clear hq
        rcases hq3 with hq3 | hq3 | rfl
        all_goals
          go_wp2_with (go_at_call 29; (with_reducible refine (HU.out _ hC).mono ?_); rintro e w2 ⟨v2, rfl, ho2, hb2⟩; obtain ⟨A2, c2, rfl⟩ := Kd.R_slice ho2)
          have hbel2 := below_after hbA hb2
          have hB2 : BldF w2 w.heap.size w.heap.size P := BldF.after hBA hb2
          have hO2 := Lib.hid (pw_own_below hOA hb2)
          have hX2 := Lib.hid (own_down (Kd.own_of_R ho2) (show w.heap.size + 1 ≤ _ by have := hBA.lt; omega))
          clear ho2 hBA hOA hbA hb2 hC HU
          go_loopw [40] (fun i wr => ∃ j : Nat, i = .int .i64 (j : Int) ∧ j ≤ X.length ∧ BldF wr w.heap.size w.heap.size (P ++ (X.take j).flatMap escU) ∧ Below w.heap.size w wr ∧ Hid (wr.ownsRow (w.heap.size + 1) 21 1 (.slice (some ad) l.length c1) l.length (nums .i32 l)) ∧ Hid (wr.ownsRow (w.heap.size + 1) 69 1 (.slice A2 X.length c2) X.length (nums .u16 X))) (fun i _ => X.length - (intOf i).toNat)
          case atStart => exact ⟨0, rfl, by omega, by simpa using hB2, hbel2, hO2, hX2⟩
          case round =>
            clear hB2 hbel2 hO2 hX2
            obtain ⟨j, rfl, hj, hB, hbel, hO, hX⟩ := hrel
            have hz := hbel.size
            by_cases hjl : j < X.length
            · obtain ⟨ae, rfl, f0⟩ := (own_rd hX.out).at_ j (by omega) (by omega)
              simp only [Int.toNat_natCast] at f0
              have hu := HXr.out (rd X j) (by
                have e : rd X j = X[j] := by simp [rd, List.getD_eq_getElem?_getD, List.getElem?_eq_getElem hjl]
                rw [e]; exact List.getElem_mem _)
              have hsn : P ++ (X.take (j + 1)).flatMap escU = (P ++ (X.take j).flatMap escU) ++ [92, 117] ++ hexU (rd X j) := by
                rw [take_rd X j hjl, List.flatMap_append, List.flatMap_singleton, escU_hex]
                simp only [List.append_assoc]
              have hql : (P ++ (X.take j).flatMap escU).length ≤ P.length + 6 * j := by
                have h6 : ∀ Y : List Int, (Y.flatMap escU).length = 6 * Y.length := by
                  intro Y
                  induction Y with
                  | nil => rfl
                  | cons y Y ih => rw [List.flatMap_cons, List.length_append, ih, List.length_cons]; simp [escU]; omega
                have : (X.take j).length ≤ j := List.length_take_le _ _
                rw [List.length_append, h6]
                omega
              have HS := Lib.hid hsn
              generalize rd X j = u at *
              generalize P ++ (X.take j).flatMap escU = Q at *
              clear hsn
              have HWS := Lib.hid (fun W h hb => Hws.out w.heap.size w.heap.size Q ⟨#[92, 117]⟩ W h (by show Q.length + 2 ≤ _; omega) hb)
              go_wp2_with (go_at_call 72; (with_reducible refine (HWS.out _ hB hz).mono ?_); rintro e w3 ⟨⟨v3, rfl⟩, hB3, hb3, hk3⟩)
              have hbel3 := hbel.trans hb3
              have hO3 := Lib.hid (own_others hO.out hk3 (by decide) (by omega))
              have hX3 := Lib.hid (own_others hX.out hk3 (by decide) (by omega))
              rw [show bytesOf ⟨#[92, 117]⟩ = [92, 117] from rfl] at hB3
              clear hB hO hX hbel hk3 hb3 HWS
              go_loopw [11] (fun v wr => ∃ (i : Nat) (sh : Int), v = .int .i64 sh ∧ ((sh = 12 ∧ i = 0) ∨ (sh = 8 ∧ i = 1) ∨ (sh = 4 ∧ i = 2) ∨ (sh = 0 ∧ i = 3) ∨ (sh = -4 ∧ i = 4)) ∧ BldF wr w.heap.size w.heap.size (Q ++ [92, 117] ++ (hexU u).take i) ∧ Below w.heap.size w wr ∧ Hid (wr.ownsRow (w.heap.size + 1) 21 1 (.slice (some ad) l.length c1) l.length (nums .i32 l)) ∧ Hid (wr.ownsRow (w.heap.size + 1) 69 1 (.slice (some ae) X.length c2) X.length (nums .u16 X))) (fun v _ => (intOf v + 4).toNat)
              case atStart => exact ⟨0, 12, rfl, Or.inl ⟨rfl, rfl⟩, by simpa using hB3, hbel3, hO3, hX3⟩
              case round =>
                clear hB3 hbel3 hO3 hX3
                obtain ⟨i, sh, rfl, hsh, hB, hbel, hO, hX⟩ := hrel
                have hz := hbel.size
                rcases hsh with ⟨rfl, rfl⟩ | ⟨rfl, rfl⟩ | ⟨rfl, rfl⟩ | ⟨rfl, rfl⟩ | ⟨rfl, rfl⟩
                · have e15 : Go.bits .and .u16 (u / 4096) 15 = u / 4096 := by rw [and15u _ (by omega) (by omega)]; try omega
                  have k0 : 0 ≤ u / 4096 := by omega
                  have k1 : u / 4096 < 16 := by omega
                  have l1 : ∀ h : (u / 4096).toNat < (ByteArray.mk #[48, 49, 50, 51, 52, 53, 54, 55, 56, 57, 97, 98, 99, 100, 101, 102]).size, ((((ByteArray.mk #[48, 49, 50, 51, 52, 53, 54, 55, 56, 57, 97, 98, 99, 100, 101, 102])[(u / 4096).toNat]'h).toNat : Nat) : Int) = bt hexT (u / 4096) := bt_at hexT (u / 4096)
                  have HWB := Lib.hid (fun W h hb => Hwb.out w.heap.size w.heap.size (Q ++ [92, 117] ++ (hexU u).take 0) (bt hexT (u / 4096)) W h (by simp [hexU]; omega) hb)
                  go_wp2_with (go_at_call 73; (with_reducible refine (HWB.out _ hB hz).mono ?_); rintro e w4 ⟨⟨v4, rfl⟩, hB4, hb4, hk4⟩)
                  have hfin : Q ++ [92, 117] ++ (hexU u).take 0 ++ [bt hexT (u / 4096)] = Q ++ [92, 117] ++ (hexU u).take 1 := by simp [hexU]
                  rw [hfin] at hB4
                  exact ⟨⟨1, 8, rfl, Or.inr (Or.inl ⟨rfl, rfl⟩), hB4, hbel.trans hb4, Lib.hid (own_others hO.out hk4 (by decide) (by omega)), Lib.hid (own_others hX.out hk4 (by decide) (by omega))⟩, by simp [intOf]⟩
                · have e15 : Go.bits .and .u16 (u / 256) 15 = u / 256 % 16 := by rw [and15u _ (by omega) (by omega)]; try omega
                  have k0 : 0 ≤ u / 256 % 16 := by omega
                  have k1 : u / 256 % 16 < 16 := by omega
                  have l1 : ∀ h : (u / 256 % 16).toNat < (ByteArray.mk #[48, 49, 50, 51, 52, 53, 54, 55, 56, 57, 97, 98, 99, 100, 101, 102]).size, ((((ByteArray.mk #[48, 49, 50, 51, 52, 53, 54, 55, 56, 57, 97, 98, 99, 100, 101, 102])[(u / 256 % 16).toNat]'h).toNat : Nat) : Int) = bt hexT (u / 256 % 16) := bt_at hexT (u / 256 % 16)
                  have HWB := Lib.hid (fun W h hb => Hwb.out w.heap.size w.heap.size (Q ++ [92, 117] ++ (hexU u).take 1) (bt hexT (u / 256 % 16)) W h (by simp [hexU]; omega) hb)
                  go_wp2_with (go_at_call 73; (with_reducible refine (HWB.out _ hB hz).mono ?_); rintro e w4 ⟨⟨v4, rfl⟩, hB4, hb4, hk4⟩)
                  have hfin : Q ++ [92, 117] ++ (hexU u).take 1 ++ [bt hexT (u / 256 % 16)] = Q ++ [92, 117] ++ (hexU u).take 2 := by simp [hexU]
                  rw [hfin] at hB4
                  exact ⟨⟨2, 4, rfl, Or.inr (Or.inr (Or.inl ⟨rfl, rfl⟩)), hB4, hbel.trans hb4, Lib.hid (own_others hO.out hk4 (by decide) (by omega)), Lib.hid (own_others hX.out hk4 (by decide) (by omega))⟩, by simp [intOf]⟩
                · have e15 : Go.bits .and .u16 (u / 16) 15 = u / 16 % 16 := by rw [and15u _ (by omega) (by omega)]; try omega
                  have k0 : 0 ≤ u / 16 % 16 := by omega
                  have k1 : u / 16 % 16 < 16 := by omega
                  have l1 : ∀ h : (u / 16 % 16).toNat < (ByteArray.mk #[48, 49, 50, 51, 52, 53, 54, 55, 56, 57, 97, 98, 99, 100, 101, 102]).size, ((((ByteArray.mk #[48, 49, 50, 51, 52, 53, 54, 55, 56, 57, 97, 98, 99, 100, 101, 102])[(u / 16 % 16).toNat]'h).toNat : Nat) : Int) = bt hexT (u / 16 % 16) := bt_at hexT (u / 16 % 16)
                  have HWB := Lib.hid (fun W h hb => Hwb.out w.heap.size w.heap.size (Q ++ [92, 117] ++ (hexU u).take 2) (bt hexT (u / 16 % 16)) W h (by simp [hexU]; omega) hb)
                  go_wp2_with (go_at_call 73; (with_reducible refine (HWB.out _ hB hz).mono ?_); rintro e w4 ⟨⟨v4, rfl⟩, hB4, hb4, hk4⟩)
                  have hfin : Q ++ [92, 117] ++ (hexU u).take 2 ++ [bt hexT (u / 16 % 16)] = Q ++ [92, 117] ++ (hexU u).take 3 := by simp [hexU]
                  rw [hfin] at hB4
                  exact ⟨⟨3, 0, rfl, Or.inr (Or.inr (Or.inr (Or.inl ⟨rfl, rfl⟩))), hB4, hbel.trans hb4, Lib.hid (own_others hO.out hk4 (by decide) (by omega)), Lib.hid (own_others hX.out hk4 (by decide) (by omega))⟩, by simp [intOf]⟩
                · have e15 : Go.bits .and .u16 (u) 15 = u % 16 := by rw [and15u _ (by omega) (by omega)]; try omega
                  have k0 : 0 ≤ u % 16 := by omega
                  have k1 : u % 16 < 16 := by omega
                  have l1 : ∀ h : (u % 16).toNat < (ByteArray.mk #[48, 49, 50, 51, 52, 53, 54, 55, 56, 57, 97, 98, 99, 100, 101, 102]).size, ((((ByteArray.mk #[48, 49, 50, 51, 52, 53, 54, 55, 56, 57, 97, 98, 99, 100, 101, 102])[(u % 16).toNat]'h).toNat : Nat) : Int) = bt hexT (u % 16) := bt_at hexT (u % 16)
                  have HWB := Lib.hid (fun W h hb => Hwb.out w.heap.size w.heap.size (Q ++ [92, 117] ++ (hexU u).take 3) (bt hexT (u % 16)) W h (by simp [hexU]; omega) hb)
                  go_wp2_with (go_at_call 73; (with_reducible refine (HWB.out _ hB hz).mono ?_); rintro e w4 ⟨⟨v4, rfl⟩, hB4, hb4, hk4⟩)
                  have hfin : Q ++ [92, 117] ++ (hexU u).take 3 ++ [bt hexT (u % 16)] = Q ++ [92, 117] ++ (hexU u).take 4 := by simp [hexU]
                  rw [hfin] at hB4
                  exact ⟨⟨4, -4, rfl, Or.inr (Or.inr (Or.inr (Or.inr ⟨rfl, rfl⟩))), hB4, hbel.trans hb4, Lib.hid (own_others hO.out hk4 (by decide) (by omega)), Lib.hid (own_others hX.out hk4 (by decide) (by omega))⟩, by simp [intOf]⟩
                · have h4 : (hexU u).take 4 = hexU u := rfl
                  rw [h4] at hB
                  rw [← HS.out] at hB
                  go_wp2
                  exact ⟨⟨j + 1, rfl, by omega, hB, hbel, hO, hX⟩, by simp [intOf]; omega⟩
            · obtain rfl : j = X.length := by omega
              rw [List.take_length, ← Hrel.out] at hB
              go_wp2
              exact ⟨⟨k + 1, rfl, by omega, hB, hbel, hO⟩, by simp [intOf]; omega⟩
    · obtain rfl : k = l.length := by omega
      rw [List.take_length] at hB
      go_wp2_with (go_at_call 64; (with_reducible refine (Hst.out _ _ _ _ hB (escL_rng l) hz).mono ?_); rintro e w1 ⟨rfl, hb1⟩)
      go_ret
      exact ⟨rfl, hbel.trans hb1⟩
end Go.Proofs.YtgippjhkimohlaaDoor
