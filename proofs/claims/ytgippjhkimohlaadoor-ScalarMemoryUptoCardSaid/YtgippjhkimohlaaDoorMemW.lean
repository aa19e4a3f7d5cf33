/- ScalarMemory: the walk. -/
import Derived.Test.YtgippjhkimohlaaDoorMemD
import Derived.Test.YtgippjhkimohlaaDoorQUmex1
import Derived.Test.YtgippjhkimohlaaDoorQUmex0
import Derived.Test.YtgippjhkimohlaaDoorQUmex2
set_option linter.unusedVariables false
set_option linter.unusedSimpArgs false
namespace Go.Proofs.YtgippjhkimohlaaDoor
open Go.RowKit Go.Proofs.YtgippjhkimohlaaDoorW.PrintWords Go.Proofs.YtgippjhkimohlaaDoorW.PrintLast Go.Proofs.YtgippjhkimohlaaDoorQ.Ume
theorem isD_of {w0 W : World} {g : Nat} {f : ByteArray} (h : W.heap[g]? = some (.cells #[.string f] 102 (0, 0))) (hg : w0.heap.size ≤ g) : IsS102 w0 W g f := ⟨h, hg⟩
theorem own_low {w : World} {base base' n : Nat} {e : TypeId} {v : Value} {xs : List Value} (h : w.ownsRow base e 1 v n xs) (hb : base' ≤ base) : w.ownsRow base' e 1 v n xs := by
  refine ⟨h.1, ?_⟩
  rcases h.2 with hn | ⟨g, cap, cur, hv, hg, rest⟩
  · exact .inl hn
  · exact .inr ⟨g, cap, cur, hv, Nat.le_trans hb hg, rest⟩
theorem hp_lt {w : World} {g : Nat} {o : Obj} (h : w.heap[g]? = some o) : g < w.heap.size := (Array.getElem?_eq_some_iff.1 h).1
theorem hp_after {w w' : World} {g : Nat} {o : Obj} (h : w.heap[g]? = some o) (hb : Below w.heap.size w w') : w'.heap[g]? = some o := (hb.block g (hp_lt h)).trans h
set_option maxRecDepth 100000 in
set_option maxHeartbeats 8000000 in
theorem scalarMemory_any (s : ByteArray) (w : World) (hs : s.size ≤ 1048576) (T : Tabs w) : Calls Tryd.prog 13 #[.string s] w fun e w' => e = .returned (.bool true) ∧ Below w.heap.size w w' := by
  have hdl := decT_len2 s
  have hsc := decT_scal s
  have hul := untL_len (decT s)
  have hur := untL_range (decT s) hsc
  obtain ⟨L, e0, hS, hLl, hfeed⟩ := Feed_is (⟨#[]⟩ : ByteArray) s (by rw [ByteArray.size_append]; show 0 + s.size ≤ _; omega) 2000000 (by rw [ByteArray.size_append]; show 0 + s.size < _; omega)
  have hLl2 : L.length ≤ 1048576 := by rw [ByteArray.size_append] at hLl; have : (⟨#[]⟩ : ByteArray).size = 0 := rfl; omega
  obtain ⟨l1, hl1⟩ : ∃ l1, L.map (·.2.rune) = l1 := ⟨_, rfl⟩
  obtain ⟨f1, hf1⟩ : ∃ f1, tail ((⟨#[]⟩ : ByteArray) ++ s) e0 = f1 := ⟨_, rfl⟩
  rw [hl1, hf1] at hfeed
  have hl1l : l1.length ≤ 1048576 := by rw [← hl1, List.length_map]; exact hLl2
  obtain ⟨l2, hend, hl2l⟩ : ∃ l2, scalar_Decoder_End.f f1 = some (l2, (⟨#[]⟩ : ByteArray)) ∧ l2.length ≤ 1 := by
    rw [← hf1]
    unfold scalar_Decoder_End.f
    by_cases he : e0 = ((⟨#[]⟩ : ByteArray) ++ s).size
    · rw [he, tail_end_eq, if_pos (List.isEmpty_iff.1 (empty_yes (s := (⟨#[]⟩ : ByteArray)) rfl))]
      exact ⟨[], rfl, by simp⟩
    · have hz := tail_size ((⟨#[]⟩ : ByteArray) ++ s) e0 hS.pos hS.le
      have hne := empty_no (s := tail ((⟨#[]⟩ : ByteArray) ++ s) e0) (by have := hS.le; omega)
      rw [if_neg (fun h => by rw [h] at hne; cases hne)]
      exact ⟨[65533], rfl, by simp⟩
  have hunits := Units_all (decT s) hsc (by omega)
  have hfrom := FromUnits_is (untL (decT s)) hur (by omega) 90000000 (by omega)
  have hfrl : (frmU (untL (decT s))).length ≤ (untL (decT s)).length := frmU_len _ _ (Nat.le_refl _)
  have Haw := Lib.hid (awake_any w T)
  have HRD := Lib.hid (fun W => mRDec s W hs)
  have HD := Lib.hid (fun W (h : Below w.heap.size w W) => mDec s W hs (Utf8Tabs_below T h))
  have hx : scalar_Decoder_Feed.f 10 (⟨#[]⟩ : ByteArray) ⟨#[120]⟩ = some ([120], (⟨#[]⟩ : ByteArray)) := by decide +kernel
  have hp : scalar_Pieces.f s = some ((pcs s 0).map toS32) := by
    unfold scalar_Pieces.f
    rw [if_pos (by omega)]
  have hpl : ((pcs s 0).map toS32).length = (decT s).length := by unfold decT; rw [List.length_map, List.length_map]
  have HP := Lib.hid (fun W (h : Below w.heap.size w W) => scalar_Pieces.calls s _ W hp (Utf8Tabs_below T h))
  generalize (pcs s 0).map toS32 = pl at *
  have HU := Lib.hid (fun A c W R hc => scalar_Units.calls 9000000000003 A c (decT s) (untL (decT s)) 0 0 W R hc hunits)
  have HF := Lib.hid (fun A c W R hc => scalar_FromUnits.calls 90000000 A c (untL (decT s)) (frmU (untL (decT s))) W R hc hfrom)
  have HN := Lib.hid (fun W => scalar_NewDecoder.calls (⟨#[]⟩ : ByteArray) W W (Below.refl _ _) rfl)
  have HFe := Lib.hid (fun g W0 W hI hB T => scalar_Decoder_Feed.calls 2000000 g (⟨#[]⟩ : ByteArray) s l1 f1 W0 W hI hB hfeed T)
  have HEn := Lib.hid (fun g W0 W hI hB => scalar_Decoder_End.calls g f1 l2 (⟨#[]⟩ : ByteArray) W0 W hI hB hend)
  have HFx := Lib.hid (fun g W0 W hI hB T => scalar_Decoder_Feed.calls 10 g (⟨#[]⟩ : ByteArray) ⟨#[120]⟩ [120] (⟨#[]⟩ : ByteArray) W0 W hI hB hx T)
  generalize frmU (untL (decT s)) = l3 at *
  generalize untL (decT s) = lu at *
  generalize decT s = l0 at *
  clear hunits hfrom hx hp hfeed hend hS hur hsc hf1 hl1
  go_enter Tryd.func13, Tryd.ntmps13
  go_wp2_with (first
    | (go_at_call 17; (with_reducible refine (Haw.out).mono ?_); rintro e w1 ⟨rfl, hb1⟩)
    | (go_at_call 20; (with_reducible refine (HRD.out _).mono ?_); rintro e w2 ⟨A4, c4, rfl, m4, hb2⟩; have hbb2 := below_after hb1 hb2; have z2 := hb2.size; have z1 := hb1.size)
    | (go_at_call 38; (with_reducible refine (HN.out _).mono ?_); rintro e w3 ⟨gd, rfl, hI3, hL3, hb3⟩; have m43 := m4.below hb3; have hbb3 := below_after hbb2 hb3; have z3 := hb3.size; have hgd := hp_lt hI3.1; have hgd2 : w2.heap.size ≤ gd := hI3.2)
    | (go_at_call 19; go_loud ((with_reducible refine (HD.out _ hbb3).mono ?_); rintro e w4 ⟨A0, c0, rfl, m0, hb4⟩; have m44 := m43.below hb4; have hI4 := hp_after hI3.1 hb4; have hL4 := below_after hL3 hb4; have hbb4 := below_after hbb3 hb4; have z4 := hb4.size))
    | (go_at_call 39; go_loud ((with_reducible refine (HFe.out gd w2 _ (isD_of hI4 hgd2) hL4 (Utf8Tabs_below T hbb2)).mono ?_); rintro e w5 ⟨v5, rfl, hR5, hI5, hL5, hK5⟩; obtain ⟨A1, c1, rfl, m1⟩ := made_R hR5; have m45 := m44.keep hK5 (Or.inr hgd2); have m05 := m0.keep hK5 (Or.inl hgd); have z5 := hK5.1))
    | (go_at_call 40; go_loud ((with_reducible refine (HEn.out gd w2 _ hI5 hL5).mono ?_); rintro e w6 ⟨v6, rfl, hR6, hI6, hL6, hK6⟩; obtain ⟨A2, c2, rfl, m2⟩ := made_R hR6; have m46 := m45.keep hK6 (Or.inr hgd2); have m06 := m05.keep hK6 (Or.inl hgd); have m16 := m1.keep hK6 (Or.inl (by omega)); have z6 := hK6.1; have hbb6 := below_after hbb2 hL6))
    | (go_at_call 29; go_loud ((with_reducible refine (HU.out A4 c4 _ (C_of_ints m46.reads) m46.cap).mono ?_); rintro e w7 ⟨v7, rfl, hR7, hb7⟩; obtain ⟨Au, cu, rfl, hcu, hru⟩ := Kd.R_reads hR7; have m47 := m46.below hb7; have m07 := m06.below hb7; have m17 := m16.below hb7; have m27 := m2.below hb7; have hI7 := hp_after hI6.1 hb7; have hbb7 := below_after hbb6 hb7; have z7 := hb7.size))
    | (go_at_call 41; go_loud ((with_reducible refine (HF.out Au cu _ hru hcu).mono ?_); rintro e w8 ⟨v8, rfl, hR8, hb8⟩; obtain ⟨A3, c3, rfl, m3⟩ := made_R hR8; have m48 := m47.below hb8; have m08 := m07.below hb8; have m18 := m17.below hb8; have m28 := m27.below hb8; have hI8 := hp_after hI7 hb8; have hbb8 := below_after hbb7 hb8; have z8 := hb8.size)))
  have hw8 : w.heap.size ≤ w8.heap.size := hbb8.size
  have hgdw : w.heap.size ≤ gd := Nat.le_trans hbb2.size hgd2
  have hbel0 : Below w.heap.size w (w8.alloc (.cells #[.slice A0 l0.length c0, .slice A1 l1.length c1, .slice A2 l2.length c2, .slice A3 l3.length c3] 24)) := below_alloc hbb8 _
  have hone := below_one w8 (.cells #[.slice A0 l0.length c0, .slice A1 l1.length c1, .slice A2 l2.length c2, .slice A3 l3.length c3] 24)
  have hz9 : (w8.alloc (.cells #[.slice A0 l0.length c0, .slice A1 l1.length c1, .slice A2 l2.length c2, .slice A3 l3.length c3] 24)).heap.size = w8.heap.size + 1 := by simp
  obtain ⟨F, X, ok, M0, hF4, hX4⟩ : ∃ (F : Five) (X : Nat → List Int), F.Ok gd w8.heap.size (w8.heap.size + 1) ∧ Mem F X w.heap.size gd w8.heap.size (w8.heap.size + 1) (w8.alloc (.cells #[.slice A0 l0.length c0, .slice A1 l1.length c1, .slice A2 l2.length c2, .slice A3 l3.length c3] 24)) ∧ F.val 4 = .slice A4 l0.length c4 ∧ X 4 = l0 := by
    refine ⟨_, fun i => if i = 0 then l0 else if i = 1 then l1 else if i = 2 then l2 else if i = 3 then l3 else l0, five_ok m08 m18 m28 m3 m48 (by omega) (by omega) (by omega) (by omega) (by omega) (by omega), ⟨fun i hi => ?_, ?_, ?_, by omega⟩, rfl, rfl⟩
    · have : i = 0 ∨ i = 1 ∨ i = 2 ∨ i = 3 ∨ i = 4 := by omega
      rcases this with rfl | rfl | rfl | rfl | rfl
      · exact pw_own_below (own_low m08.own (by omega)) hone
      · exact pw_own_below (own_low m18.own (by omega)) hone
      · exact pw_own_below (own_low m28.own (by omega)) hone
      · exact pw_own_below (own_low m3.own (by omega)) hone
      · exact pw_own_below (own_low m48.own (by omega)) hone
    · exact hp_after hI8 hone
    · exact heap_alloc_new w8 _
  generalize w8.alloc (.cells #[.slice A0 l0.length c0, .slice A1 l1.length c1, .slice A2 l2.length c2, .slice A3 l3.length c3] 24) = w9 at *
  clear m08 m18 m28 m3 m48 m07 m17 m27 m47 m06 m16 m2 m46 m05 m1 m45 m0 m44 m43 m4 hI8 hI7 hI6 hI5 hI4 hI3 hone hR5 hR6 hR7 hR8 hru hL3 hL4 hL5 hL6 hK5 hK6 HRD HN HFe HEn HU HF Haw hb1 hb2 hb3 hb4 hb7 hb8 hbb2 hbb3 hbb4 hbb6 hbb7 hbb8 z1 z2 z3 z4 z5 z6 z7 z8
  have hwgl := Lib.hid hw8
  generalize w8.heap.size = gl at *
  have OK := Lib.hid ok
  have HM0 := Lib.hid M0
  clear ok M0
  go_loopw [51] (fun i wr => ∃ (k : Int) (X : Nat → List Int), i = .int .i64 k ∧ 0 ≤ k ∧ k ≤ 4 ∧ Hid (Mem F X w.heap.size gd gl (gl + 1) wr) ∧ Hid (X 4 = l0) ∧ Hid (∀ i : Nat, (i : Int) < k → ∀ j : Int, 0 ≤ j → j < F.n i → rd (X i) j = -1 - i) ∧ Below w.heap.size w wr) (fun i _ => 4 - (intOf i).toNat)
  case atStart => exact ⟨0, X, rfl, by omega, by omega, HM0, Lib.hid hX4, Lib.hid (fun i h => by omega), hbel0⟩
  case round =>
    clear HM0 hX4 hbel0 X
    obtain ⟨k, X, rfl, hk0, hk1, hM, hX, hD, hbel⟩ := hrel
    by_cases hlt : k < 4
    · have hcl := hM.out.lstAt (i := k.toNat) (by omega)
      have hsz := OK.out.size k.toNat (by omega)
      unfold Five.val at hcl
      have hst := fun X' wr' (M : Mem F X' w.heap.size gd gl (gl + 1) wr') (j : Int) (h0 : 0 ≤ j) (h1 : j < F.n k.toNat) => M.store OK.out (show k.toNat < 4 by omega) j (-1 - k) h0 h1
      have HSt := Lib.hid hst
      clear hst
      have hlen := fun X' wr' (M : Mem F X' w.heap.size gd gl (gl + 1) wr') => M.len (show k.toNat < 5 by omega)
      have HLen := Lib.hid hlen
      clear hlen
      generalize hAk : F.A k.toNat = Ak at *
      generalize hnk : F.n k.toNat = nk at *
      generalize hck : F.c k.toNat = ck at *
      go_wp2
      go_loopw [58] (fun v wr => ∃ (j : Int) (X : Nat → List Int), v = .int .i64 j ∧ 0 ≤ j ∧ j ≤ nk ∧ Hid (Mem F X w.heap.size gd gl (gl + 1) wr) ∧ Hid (X 4 = l0) ∧ Hid (∀ i : Nat, (i : Int) < k → ∀ j : Int, 0 ≤ j → j < F.n i → rd (X i) j = -1 - i) ∧ Hid (∀ i : Int, 0 ≤ i → i < j → rd (X k.toNat) i = -1 - k) ∧ Below w.heap.size w wr) (fun v _ => nk - (intOf v).toNat)
      case atStart => exact ⟨0, X, rfl, by omega, by omega, hM, hX, hD, Lib.hid (fun i h0 h1 => by omega), hbel⟩
      case round =>
        clear hM hX hD hbel hcl
        obtain ⟨j, X, rfl, hj0, hj1, hM, hX, hD, hE, hbel⟩ := hrel
        by_cases hjl : j < nk
        · obtain ⟨g, hA, hBg, c0, c1, hM2⟩ := HSt.out X wr hM.out j hj0 hjl
          have hXl := HLen.out X wr hM.out
          subst hA
          have HM2 := Lib.hid hM2
          clear hM2
          go_wp2
          refine ⟨⟨j + 1, upd X k.toNat ((X k.toNat).set j.toNat (-1 - k)), rfl, by omega, by omega, HM2, Lib.hid ?_, Lib.hid (fun i hi => ?_), Lib.hid (fun i h0 h1 => ?_), below_set hbel hBg _⟩, by simp [intOf]; omega⟩
          · unfold upd
            rw [if_neg (by omega)]
            exact hX.out
          · unfold upd
            rw [if_neg (by omega)]
            exact hD.out i hi
          · unfold upd
            rw [if_pos rfl, rd_set (X k.toNat) j i _ hj0 (by omega) h0]
            by_cases e : i = j
            · rw [if_pos e]
            · rw [if_neg e]
              exact hE.out i h0 (by omega)
        · obtain rfl : j = nk := by omega
          have hD2 : Hid (∀ i : Nat, (i : Int) < k + 1 → ∀ j : Int, 0 ≤ j → j < F.n i → rd (X i) j = -1 - i) := Lib.hid (fun i hi j h0 h1 => by
            by_cases e : (i : Int) = k
            · have e2 : i = k.toNat := by omega
              subst e2
              rw [hE.out j h0 (by rw [← hnk]; exact h1)]
              omega
            · exact hD.out i (by omega) j h0 h1)
          go_wp2
          exact ⟨⟨k + 1, X, rfl, by omega, by omega, hM, hX, hD2, hbel⟩, by simp [intOf]; omega⟩
    · obtain rfl : k = 4 := by omega
      have HM := Lib.hid hM.out.to2
      have hX4 := hX
      clear hM hX
      go_wp2
      go_loopw [71] (fun i wr => ∃ (k : Int), i = .int .i64 k ∧ 0 ≤ k ∧ k ≤ 4 ∧ Hid (Mem2 F X w.heap.size gd gl (gl + 1) k.toNat wr) ∧ Below w.heap.size w wr) (fun i _ => 4 - (intOf i).toNat)
      case atStart => exact ⟨0, rfl, by omega, by omega, HM, hbel⟩
      case round =>
        clear HM hbel
        obtain ⟨k, rfl, hk0, hk1, hM, hbel⟩ := hrel
        by_cases hlt : k < 4
        · have hcl := hM.out.lstAt (i := k.toNat) (by omega)
          have hsz := OK.out.size k.toNat (by omega)
          have hown := hM.out.own k.toNat (Nat.le_refl _) (by omega)
          have hrds := hM.out.rds k.toNat (by omega)
          have hXk : (X k.toNat).length = F.n k.toNat := hrds.1
          have hDk : Hid (∀ j : Int, 0 ≤ j → j < F.n k.toNat → rd (X k.toNat) j = -1 - k) := Lib.hid (fun j h0 h1 => by
            have := hD.out k.toNat (by omega) j h0 h1
            rw [this]
            omega)
          have hAt : At F k.toNat (gl + 1) (F.val k.toNat) := Or.inl rfl
          have hM1 := Lib.hid hM.out.up
          unfold Five.val at hcl
          clear hM hrds
          go_wp2
          go_loopw [17, 76] (fun l v wr => ∃ (m : Nat) (Av : Option Addr) (cv : Nat) (Y : List Int), l = .slice Av Y.length cv ∧ v = .int .i64 (m : Int) ∧ m ≤ 9 ∧ Y.length = F.n k.toNat + m ∧ Hid (Mem2 F X w.heap.size gd gl (gl + 1) (k.toNat + 1) wr) ∧ Hid (At F k.toNat (gl + 1) (.slice Av Y.length cv)) ∧ Hid (wr.ownsRow w.heap.size 21 1 (.slice Av Y.length cv) Y.length (nums .i32 Y)) ∧ Hid (∀ j : Int, 0 ≤ j → j < F.n k.toNat → rd Y j = -1 - k) ∧ Below w.heap.size w wr) (fun _ v _ => 9 - (intOf v).toNat)
          case atStart => exact ⟨0, F.A k.toNat, F.c k.toNat, X k.toNat, by rw [hXk], rfl, by omega, by omega, hM1, by rw [hXk]; exact Lib.hid hAt, by rw [hXk]; exact Lib.hid hown, hDk, hbel⟩
          case round =>
            clear hM1 hAt hown hDk hbel hcl hXk
            obtain ⟨m, Av, cv, Y, rfl, rfl, hm, hYl, hM, hAt, hO, hY, hbel⟩ := hrel
            by_cases hml : m < 9
            · have hA2 := hAt.out
              have ho := hO.out
              go_wp2_with (at_builtin; go_loud (refine wpList_append_two (W := wr) rfl (.tmp 78) (.tmp 79) 24 rfl w.heap.size 21 .i32 4 Tryd.underlying24 info_i32 _ Y 77 rfl rfl ho (by unfold maxLen; omega) (by omega) hbel.size ?_; intro v1 w1 ho1 hg1 hG1; obtain ⟨A1', c1', rfl⟩ := own_slice ho1; have hMg := hM.out.grow OK.out (show k.toNat < 4 by omega) hA2 (below_one _ _) hg1 hG1 (by omega); have hb1' := hbel.grown hg1 hbel.size (fun q hq => (ho.lt q hq).1)))
              have hl1 : (Y ++ [77]).length = Y.length + 1 := by simp
              refine ⟨⟨m + 1, A1', c1', Y ++ [77], by rw [hl1, hYl], by rw [show ((m + 1 : Nat) : Int) = (m : Int) + 1 by omega], by omega, by rw [hl1]; omega, Lib.hid hMg.1, by rw [hl1]; exact Lib.hid hMg.2, by rw [hl1]; exact Lib.hid ho1, Lib.hid (fun j h0 h1 => ?_), hb1'⟩, by simp [intOf]; omega⟩
              rw [rd_append_lt _ _ _ h0 (by omega)]
              exact hY.out j h0 h1
            · obtain rfl : m = 9 := by omega
              obtain ⟨A6, c6, e6, hR⟩ := own_reads hO.out
              injection e6 with e7 e8 e9
              subst e7
              have HRY := Lib.hid hR
              clear hR hO hAt
              go_wp2
              go_loopw [85] (fun v wq => ∃ j : Int, v = .int .i64 j ∧ 0 ≤ j ∧ j ≤ F.n k.toNat ∧ wq = wr) (fun v _ => F.n k.toNat - (intOf v).toNat)
              case atStart => exact ⟨0, rfl, by omega, by omega, rfl⟩
              case round =>
                obtain ⟨j, rfl, hj0, hj1, rfl⟩ := hrel
                by_cases hjl : j < F.n k.toNat
                · obtain ⟨ad, rfl, d0⟩ := HRY.out.at_ j hj0 (by omega)
                  rw [hY.out j hj0 hjl] at d0
                  go_wp2
                  exact ⟨⟨j + 1, rfl, by omega, by omega, trivial⟩, by simp [intOf]; omega⟩
                · obtain rfl : j = F.n k.toNat := by omega
                  go_wp2
                  exact ⟨⟨k + 1, rfl, by omega, by omega, by rw [show (k + 1).toNat = k.toNat + 1 by omega]; exact hM, hbel⟩, by simp [intOf]; omega⟩
        · obtain rfl : k = 4 := by omega
          go_wp2
          go_loopw [100] (fun i wq => ∃ (k : Int), i = .int .i64 k ∧ 0 ≤ k ∧ k ≤ 4 ∧ wq = wr) (fun i _ => 4 - (intOf i).toNat)
          case atStart => exact ⟨0, rfl, by omega, by omega, rfl⟩
          case round =>
            obtain ⟨k, rfl, hk0, hk1, rfl⟩ := hrel
            by_cases hlt : k < 4
            · have hcl := hM.out.lstAt (i := k.toNat) (by omega)
              have hsz := OK.out.size k.toNat (by omega)
              have HRY := Lib.hid (hM.out.rds k.toNat (by omega))
              have hDk : Hid (∀ j : Int, 0 ≤ j → j < F.n k.toNat → rd (X k.toNat) j = -1 - k) := Lib.hid (fun j h0 h1 => by
                have := hD.out k.toNat (by omega) j h0 h1
                rw [this]
                omega)
              unfold Five.val at hcl
              generalize hAk : F.A k.toNat = Ak at *
              go_wp2
              go_loopw [107] (fun v wq => ∃ j : Int, v = .int .i64 j ∧ 0 ≤ j ∧ j ≤ F.n k.toNat ∧ wq = wr) (fun v _ => F.n k.toNat - (intOf v).toNat)
              case atStart => exact ⟨0, rfl, by omega, by omega, rfl⟩
              case round =>
                obtain ⟨j, rfl, hj0, hj1, rfl⟩ := hrel
                by_cases hjl : j < F.n k.toNat
                · obtain ⟨ad, rfl, d0⟩ := HRY.out.at_ j hj0 (by omega)
                  rw [hDk.out j hj0 hjl] at d0
                  go_wp2
                  exact ⟨⟨j + 1, rfl, by omega, by omega, trivial⟩, by simp [intOf]; omega⟩
                · obtain rfl : j = F.n k.toNat := by omega
                  go_wp2
                  exact ⟨⟨k + 1, rfl, by omega, by omega, trivial⟩, by simp [intOf]; omega⟩
            · obtain rfl : k = 4 := by omega
              go_wp2_with (go_at_call 21; go_loud ((with_reducible refine (HP.out _ hbel).mono ?_); rintro e w10 ⟨v10, rfl, hR10, hb10⟩; obtain ⟨Ap, cp, rfl⟩ := Kd.R_slice hR10))
              obtain ⟨-, inner, hpo0, -⟩ := hR10
              have hpo1 : w10.ownsRow wr.heap.size 32 4 (.slice Ap pl.length cp) pl.length inner := hpo0
              rw [hpl] at hpo1
              have hpo := Lib.hid (own_lows (base' := gl + 1) hpo1 hM.out.old)
              have hM10 := Lib.hid (hM.out.below hb10 OK.out)
              have hbel2 := below_after hbel hb10
              clear hpo0 hpo1 hM hbel hb10 hD
              go_loopw [124] (fun v wq => ∃ (j : Int) (inner : List Value), v = .int .i64 j ∧ 0 ≤ j ∧ j ≤ l0.length ∧ Hid (wq.ownsRow (gl + 1) 32 4 (.slice Ap l0.length cp) l0.length inner) ∧ Hid (Mem2 F X w.heap.size gd gl (gl + 1) (4 : Int).toNat wq) ∧ Below w.heap.size w wq) (fun v _ => l0.length - (intOf v).toNat)
              case atStart => exact ⟨0, inner, rfl, by omega, by omega, hpo, hM10, hbel2⟩
              case round =>
                clear hpo hM10 hbel2 inner
                obtain ⟨j, inner, rfl, hj0, hj1, hO, hM, hbel⟩ := hrel
                by_cases hjl : j < l0.length
                · obtain ⟨g, hA, hBg, ⟨u, c0⟩, c1, ⟨inner2, hO2⟩, hgr⟩ := pieceAt hO.out j hj0 hjl (.int .i64 (-9))
                  subst hA
                  have hO3 := Lib.hid hO2
                  have hM2 := Lib.hid (hM.out.other OK.out hgr hBg)
                  clear hO2 hgr hO hM
                  go_wp2
                  exact ⟨⟨j + 1, inner2, rfl, by omega, by omega, hO3, hM2, below_set hbel (Nat.le_trans hwgl.out (Nat.le_of_succ_le hBg)) _⟩, by simp [intOf]; omega⟩
                · obtain rfl : j = l0.length := by omega
                  have hgw := hgdw
                  clear hO
                  go_wp2_with (first
                    | (go_at_call 19; go_loud ((with_reducible refine (HD.out _ hbel).mono ?_); rintro e w11 ⟨A11, c11, rfl, m11, hb11⟩; have hM11 := hM.out.below hb11 OK.out; have hbb11 := below_after hbel hb11))
                    | (go_at_call 18; (with_reducible refine (mSame l0 A11 A4 c11 c4 w11 (by omega) m11.cap (hM11.four hF4 hX4.out).2 m11.reads (hM11.four hF4 hX4.out).1).mono ?_); rintro e w12 ⟨rfl, hb12⟩; have hM12 := hM11.below hb12 OK.out; have hbb12 := below_after hbb11 hb12)
                    | (go_at_call 21; go_loud ((with_reducible refine (HP.out _ hbb12).mono ?_); rintro e w13 ⟨v13, rfl, hR13, hb13⟩; obtain ⟨Ap2, cp2, rfl⟩ := Kd.R_slice hR13; have hM13 := hM12.below hb13 OK.out; have hbb13 := below_after hbb12 hb13; rw [hpl]))
                    | (go_at_call 39; go_loud ((with_reducible refine (HFx.out gd w _ (isD_of hM13.dec hgw) hbb13 T).mono ?_); rintro e w14 ⟨v14, rfl, hR14, hI14, hL14, hK14⟩; obtain ⟨A14, c14, rfl, hc14, hr14⟩ := mX hR14))
                    | (go_at_call 18; (with_reducible refine (mSameX A14 _ c14 _ _ hc14 (Nat.le_refl _) (hr14.below (below_one w14 _)) (litX w14)).mono ?_); rintro e w15 ⟨rfl, hb15⟩))
                  go_ret
                  exact ⟨rfl, below_after (below_alloc hL14 _) hb15⟩
end Go.Proofs.YtgippjhkimohlaaDoor
