/- PercentWritten: the walk. -/
import Derived.Test.YtfbgmlophkbejaaDoorWrtP
import Derived.Test.YtfbgmlophkbejaaDoorQPfax3
import Derived.Test.YtfbgmlophkbejaaDoorQPfax0
import Derived.Test.YtfbgmlophkbejaaDoorQPfax6
import Derived.Test.YtfbgmlophkbejaaDoorQPfax4
set_option linter.unusedVariables false
set_option linter.unusedSimpArgs false
namespace Go.Proofs.YtfbgmlophkbejaaDoor
open Go.RowKit Go.Proofs.YtfbgmlophkbejaaDoorW.PrintWords Go.Proofs.YtfbgmlophkbejaaDoorW.PrintLast Go.Proofs.YtfbgmlophkbejaaDoorQ.Pfa
namespace FC
theorem same_flds (X : List (ByteArray × ByteArray)) (hX : X.length ≤ 1073741824) (Aa Ab : Option Addr) (ca cb : Nat) (W : World) (ha : Kd.C k46 W Aa X.length (X.map toF)) (hca : X.length ≤ ca) (hb : Kd.C k35 W Ab X.length (X.map toR)) (hcb : X.length ≤ cb) :
    Calls Tryd.prog 23 #[.slice Aa X.length ca, .slice Ab X.length cb] W fun e w' => e = .returned (.bool true) ∧ Drawn0 W w' := by
  have h := posternlaw03_fields.calls 2147483648 Aa ca (X.map toF) Ab cb (X.map toR) true W (by rw [List.length_map]; exact ha) (by rw [List.length_map]; exact hca) (by rw [List.length_map]; exact hb) (by rw [List.length_map]; exact hcb) (fields_is X hX _ (by omega))
  rw [List.length_map, List.length_map] at h
  exact h
theorem rowF_of {W : World} {B : Nat} {v : Value} {X : List (ByteArray × ByteArray)} (h : Kd.R k46 46 W B (fun _ => True) v (X.map toF)) : ∃ A c, v = .slice A X.length c ∧ X.length ≤ c ∧ Kd.C k46 W A X.length (X.map toF) := by
  have := Kd.R_reads h
  rw [List.length_map] at this
  exact this
theorem rowR_of {W : World} {B : Nat} {v : Value} {X : List (ByteArray × ByteArray)} (h : Kd.R k35 35 W B (fun _ => True) v (X.map toR)) : ∃ A c, v = .slice A X.length c ∧ X.length ≤ c ∧ Kd.C k35 W A X.length (X.map toR) := by
  have := Kd.R_reads h
  rw [List.length_map] at this
  exact this
set_option maxRecDepth 100000 in
set_option maxHeartbeats 40000000 in
theorem percentWritten_any (l : List (ByteArray × ByteArray)) (name value : ByteArray) (A : Option Addr) (c : Nat) (w : World) (hR : Pairs w A l) (hc : l.length ≤ c) (hl : pairsSize l + 3 * l.length ≤ 1048576) (T : TabM w) :
    Calls Tryd.prog 8 #[.slice A l.length c, .string name, .string value] w fun e w' => e = .returned (.bool true) ∧ Below w.heap.size w w' := by
  have hC := C_pairs hR
  have hLl : (l.map toF).length = l.length := List.length_map ..
  have hS := fun W (hb : Below w.heap.size w W) => Set_any name value (l.map toF) A c W (Kd.C_below hC hb) (by rw [hLl]; exact hc) (by rw [hLl]; omega)
  have hW := fun W (hb : Below w.heap.size w W) => Without_any name (l.map toF) A c W (Kd.C_below hC hb) (by rw [hLl]; omega)
  have hWr := fun W (hb : Below w.heap.size w W) => percent_Written.calls 2147483648 A c (l.map toF) _ W (Kd.C_below hC hb) (by rw [hLl]; exact hc) (Written_is l (by omega) _ (by omega)) (TabM_below T hb)
  have hGv := fun W (hb : Below w.heap.size w W) => posternlaw03_given.calls 2147483648 A c (l.map toF) _ W (Kd.C_below hC hb) (by rw [hLl]; exact hc) (given_is l (by omega) _ (by omega))
  rw [hLl] at hS hW hWr hGv
  have hcell := fun (k : Nat) (hk : k < l.length) W (hb : Below w.heap.size w W) => at_T46 (Kd.C_below hC hb) (k : Int) (by omega) (by rw [hLl]; omega)
  have hwz := writtenB_size l
  have hFd := fun W (hb : Below w.heap.size w W) => percent_Fields.calls 2147483648 (writtenB l) _ W (Fields_is (writtenB l) (by omega) _ (by omega)) (TabM_below T hb)
  have hps := setF_len name value (l.map toF)
  have hsz : ∀ p ∈ l, p.1.size + p.2.size ≤ 1048576 := fun p hp => by have := pair_size l p hp; omega
  have HS := Lib.hid hS
  have HW := Lib.hid hW
  have HWr := Lib.hid hWr
  have HGv := Lib.hid hGv
  have HFd := Lib.hid hFd
  have Hcell := Lib.hid hcell
  have Hsz := Lib.hid hsz
  clear hS hW hWr hGv hFd hcell hsz hR hC hLl hwz
  go_enter Tryd.func8, Tryd.ntmps8
  go_wp2_with (first
    | (go_at_call 20; ((with_reducible refine (HS.out _ (Below.refl _ _)).mono ?_); rintro e w1 ⟨v1, rfl, hR1, hL1⟩; obtain ⟨A1, c1, rfl, hc1, hC1⟩ := Kd.R_reads hR1))
    | (go_at_call 18; first
      | ((with_reducible refine (Get_any name _ A1 c1 _ hC1).mono ?_); rw [get_set]; rintro e w2 ⟨rfl, hb2⟩; have hL2 := below_after hL1 hb2)
      | ((with_reducible refine (Get_any name _ A3 c3 _ hC3).mono ?_); rw [get_without]; rintro e w4 ⟨rfl, hb4⟩; have hL4 := below_after hL3 hb4))
    | (go_at_call 21; ((with_reducible refine (HW.out _ hL2).mono ?_); rintro e w3 ⟨v3, rfl, hR3, hb3⟩; obtain ⟨A3, c3, rfl, hc3, hC3⟩ := Kd.R_reads hR3; have hL3 := below_after hL2 hb3))
    | (go_at_call 9; ((with_reducible refine (posternlaw03_awake.calls true _ rfl).mono ?_); rintro e w5 ⟨rfl, hb5⟩; have hL5 := below_after hL4 hb5)))
  clear hR1 hR3 hC1 hC3 hb2 hb3 hb4 hb5 hL1 hL2 hL3 hL4
  go_loopw [11] (fun i wr => ∃ k : Nat, i = .int .i64 (k : Int) ∧ k ≤ l.length ∧ Hid (∀ p ∈ l.take k, Cln p.1 ∧ Cln p.2) ∧ Below w.heap.size w wr) (fun i _ => l.length - (intOf i).toNat)
  case atStart => exact ⟨0, rfl, by omega, Lib.hid (fun p hp => by simp at hp), hL5⟩
  case round =>
    clear hL5
    obtain ⟨k, rfl, hk, hcl, hL⟩ := hrel
    by_cases hlt : k < l.length
    · obtain ⟨ad, rfl, d0, d1⟩ := Hcell.out k hlt wr hL
      have hz := Hsz.out l[k] (List.getElem_mem hlt)
      obtain ⟨b1, f1, q1⟩ := clean_is l[k].1 (by omega)
      obtain ⟨b2, f2, q2⟩ := clean_is l[k].2 (by omega)
      have hcl2 : b1 = true → b2 = true → Hid (∀ p ∈ l.take (k + 1), Cln p.1 ∧ Cln p.2) := fun e1 e2 => Lib.hid fun p hp => by
        rw [List.take_succ_eq_append_getElem hlt] at hp
        rcases List.mem_append.1 hp with hp | hp
        · exact hcl.out p hp
        · obtain rfl := List.mem_singleton.1 hp
          exact ⟨q1.1 e1, q2.1 e2⟩
      have hd1 := fun W (hb : Below w.heap.size w W) => (Hcell.out k hlt W hb)
      have hrd := rdF_map l k hlt
      rw [hrd] at d0 d1
      simp only [hrd, toF, Int.toNat_natCast] at d0 d1 hd1
      have Hc1 := Lib.hid (fun W => posternlaw03_clean.calls 2147483648 _ b1 W f1)
      have Hc2 := Lib.hid (fun W => posternlaw03_clean.calls 2147483648 _ b2 W f2)
      have Hd1 := Lib.hid hd1
      clear hd1 hrd f1 f2 q1 q2 hz
      generalize l[k].1 = x1 at *
      generalize l[k].2 = x2 at *
      cases b1 with
      | false =>
        go_wp2_with (go_at_call 34; ((with_reducible refine (Hc1.out _).mono ?_); rintro e w6 ⟨rfl, hb6⟩; have hL6 := below_after hL hb6))
        go_ret
        exact ⟨rfl, hL6⟩
      | true =>
        cases b2 with
        | false =>
          go_wp2_with (go_at_call 34; first
            | ((with_reducible refine (Hc1.out wr).mono ?_); rintro e w6 ⟨rfl, hb6⟩; have hL6 := below_after hL hb6; obtain ⟨ad2, e2, g0, g1⟩ := Hd1.out w6 hL6; obtain rfl := Option.some.inj e2)
            | ((with_reducible refine (Hc2.out _).mono ?_); rintro e w7 ⟨rfl, hb7⟩; have hL7 := below_after hL6 hb7))
          go_ret
          exact ⟨rfl, hL7⟩
        | true =>
          have hcl3 := hcl2 rfl rfl
          clear hcl2
          go_wp2_with (go_at_call 34; first
            | ((with_reducible refine (Hc1.out wr).mono ?_); rintro e w6 ⟨rfl, hb6⟩; have hL6 := below_after hL hb6; obtain ⟨ad2, e2, g0, g1⟩ := Hd1.out w6 hL6; obtain rfl := Option.some.inj e2)
            | ((with_reducible refine (Hc2.out _).mono ?_); rintro e w7 ⟨rfl, hb7⟩; have hL7 := below_after hL6 hb7))
          exact ⟨⟨k + 1, by simp, by omega, hcl3, hL7⟩, by simp [intOf]; omega⟩
    · obtain rfl : k = l.length := by omega
      have hall := hcl.out
      rw [List.take_length] at hall
      have hFd2 := HFd.out
      rw [written_back l hall] at hFd2
      have HFd2 := Lib.hid hFd2
      clear hFd2 hall hcl Hcell
      generalize writtenB l = Z at *
      go_wp2_with (first
        | (go_at_call 32; ((with_reducible refine (HWr.out _ hL).mono ?_); rintro e w6 ⟨rfl, hb6⟩; have hL6 := below_after hL hb6))
        | (go_at_call 31; ((with_reducible refine (HFd2.out _ hL6).mono ?_); rintro e w7 ⟨v7, rfl, hR7, hb7⟩; have hL7 := below_after hL6 hb7; obtain ⟨A7, c7, rfl, hc7, hC7⟩ := rowF_of hR7))
        | (go_at_call 17; ((with_reducible refine (HGv.out _ hL7).mono ?_); rintro e w8 ⟨v8, rfl, hR8, hb8⟩; have hL8 := below_after hL7 hb8; obtain ⟨A8, c8, rfl, hc8, hC8⟩ := rowR_of hR8; have hC7' := Kd.C_below hC7 hb8))
        | (go_at_call 23; ((with_reducible refine (same_flds l (by omega) _ _ _ _ _ hC7' hc7 hC8 hc8).mono ?_); rintro e w9 ⟨rfl, n9⟩; have hL9 := below_after hL8 n9.below)))
      go_ret
      exact ⟨rfl, hL9⟩
end FC
end Go.Proofs.YtfbgmlophkbejaaDoor
