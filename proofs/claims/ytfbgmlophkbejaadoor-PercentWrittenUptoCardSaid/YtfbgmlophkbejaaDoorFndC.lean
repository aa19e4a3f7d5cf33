/- Fields: Without, Set. -/
import Derived.Test.YtfbgmlophkbejaaDoorFndB
import Derived.Test.YtfbgmlophkbejaaDoorQPfax3
import Derived.Test.YtfbgmlophkbejaaDoorQPfax0
set_option linter.unusedVariables false
set_option linter.unusedSimpArgs false
namespace Go.Proofs.YtfbgmlophkbejaaDoor
open Go.RowKit Go.Proofs.YtfbgmlophkbejaaDoorW.PrintWords Go.Proofs.YtfbgmlophkbejaaDoorW.PrintLast Go.Proofs.YtfbgmlophkbejaaDoorQ.Pfa
namespace FC
set_option maxRecDepth 100000 in
theorem Without_any (name : ByteArray) (l : List S46) (A : Option Addr) (c : Nat) (w : World) (hC : Kd.C k46 w A l.length l) (hl : l.length ≤ 1073741824) : Calls Tryd.prog 21 #[.slice A l.length c, .string name] w fun e w' => ∃ v, e = .returned v ∧ RowS w' w.heap.size v (l.filter fun x => !isN name x) ∧ Below w.heap.size w w' := by
  have hb := below_one w (.cells #[.string name] 9)
  have hB : Blk (w.alloc (.cells #[.string name] 9)) w.heap.size 9 #[.string name] := Blk.new _ _ _
  have hc := Clone_any l A c _ (Kd.C_below hC hb) hl
  have HC := Lib.hid hc
  have hsz : (w.alloc (.cells #[.string name] 9)).heap.size = w.heap.size + 1 := by simp
  have Hsz := Lib.hid hsz
  have hlt := hb.size
  clear hc hC hsz
  go_enter Tryd.func21, Tryd.ntmps21
  go_wp2_with (first
    | (go_at_call 52; ((with_reducible refine (HC.out).mono ?_); rintro e w2 ⟨v2, rfl, hR2, hb2⟩; have HD := Lib.hid (Del_any name l v2 _ w.heap.size w2 hR2 (by rw [Hsz.out]; omega) hb2.size (hB.after hb2) hl); have Hb2 := Lib.hid hb2; clear hb2 hR2))
    | (go_at_call 53; ((with_reducible refine (HD.out).mono ?_); rintro e w3 ⟨v3, rfl, hR3, hb3⟩)))
  go_ret
  have hb2 := Hb2.out
  refine ⟨_, rfl, hR3.lower hlt, hb.trans ?_⟩
  have h1 := below_le hb2 hlt
  exact h1.trans ⟨hb3.os, hb3.tape, hb3.output, hb3.size, fun i hi => hb3.block i (by omega)⟩
/-- fields with one of a name -/
def setF (name value : ByteArray) (l : List S46) : List S46 := match l.findIdx? (isN name) with
  | some k => l.take k ++ [⟨name, value⟩] ++ (l.drop (k + 1)).filter fun x => !isN name x
  | none => l ++ [⟨name, value⟩]
theorem RowS.one (W : World) (y : S46) : Kd.C k46 (W.alloc (.cells #[.string y.f0, .string y.f1] 46)) (some ⟨W.heap.size, 0, none⟩) 1 [y] := by
  have hB : Blk (W.alloc (.cells #[.string y.f0, .string y.f1] 46)) W.heap.size 46 #[.string y.f0, .string y.f1] := Blk.new _ _ _
  refine ⟨rfl, by decide, fun _ => ⟨_, rfl, fun j p hj => ?_⟩⟩
  match j, hj with
  | 0, hj =>
    obtain rfl := Option.some.inj hj
    refine ⟨[.string y.f0, .string y.f1], rfl, k46_mk _ y, fun i u hu => ?_⟩
    rw [Addr.add_lit]
    match i, hu with
    | 0, hu => obtain rfl := Option.some.inj hu; exact hB.cell 0
    | 1, hu => obtain rfl := Option.some.inj hu; exact hB.cell 1
set_option maxRecDepth 100000 in
set_option maxHeartbeats 4000000 in
theorem Set_any (name value : ByteArray) (l : List S46) (A : Option Addr) (c : Nat) (w : World) (hC : Kd.C k46 w A l.length l) (hcc : l.length ≤ c) (hl : l.length ≤ 1073741824) : Calls Tryd.prog 20 #[.slice A l.length c, .string name, .string value] w fun e w' => ∃ v, e = .returned v ∧ RowS w' w.heap.size v (setF name value l) ∧ Below w.heap.size w w' := by
  have hf := find_any name l A c w hC
  rcases fixF_cases (isN name) l 0 with ⟨h1, h2⟩ | ⟨k, hk, h1, h2, h3⟩
  · rw [h1] at hf
    have hg : setF name value l = l ++ [⟨name, value⟩] := by unfold setF; rw [List.findIdx?_eq_none_iff.2 h2]
    rw [hg]
    have HF := Lib.hid hf
    have HC := Lib.hid hC
    have HCl := Lib.hid (fun W (hb : Below w.heap.size w W) => Clone_any l A c W (Kd.C_below hC hb) hl)
    clear hf hg h1 h2 hC
    go_enter Tryd.func20, Tryd.ntmps20
    go_wp2_with (first
      | (go_at_call 51; (with_reducible refine (HF.out).mono ?_); rintro e w2 ⟨rfl, hb2⟩)
      | (go_at_call 52; (with_reducible refine (HCl.out _ hb2).mono ?_); rintro e w3 ⟨v3, rfl, hR3, hb3⟩; have hlw := hb2.size; have hlw3 := hb3.size; have hO := (hR3.lower hlw).below (below_one w3 (.cells #[.string name, .string value] 46)); have hN := RowS.one w3 ⟨name, value⟩; have Hb2 := Lib.hid hb2; have Hb3 := Lib.hid hb3; clear hb2 hb3)
      | (at_builtin; (refine app_flx (W := w3.alloc (.cells #[.string name, .string value] 46)) w.heap.size rfl (.tmp 15) (.tmp 19) rfl _ l [⟨name, value⟩] (some ⟨w3.heap.size, 0, none⟩) 1 1 rfl rfl hO hN (by simp; omega) (by omega) ?_; intro v4 w4 hR4 hb4 _ _)))
    go_ret
    exact ⟨_, rfl, hR4, ((below_after Hb2.out Hb3.out).trans (below_le (below_one w3 _) (by omega))).trans hb4⟩
  · rw [h1, Int.zero_add] at hf
    have hg : setF name value l = (l.take k ++ [⟨name, value⟩]) ++ (l.drop (k + 1)).filter fun x => !isN name x := by
      unfold setF
      have : l.findIdx? (isN name) = some k := List.findIdx?_eq_some_iff_getElem.2 ⟨hk, h2, fun j hj => by
        have := h3 l[j] (List.mem_iff_getElem.2 ⟨j, by rw [List.length_take]; omega, by rw [List.getElem_take]⟩)
        rw [this]
        simp⟩
      rw [this]
    rw [hg]
    obtain ⟨i0, hi, hzz⟩ := Option.map_eq_some_iff.1 info_fl
    simp only [Prod.mk.injEq] at hzz
    have hk1 : wrap64 ((k : Int) + 1) = ((k + 1 : Nat) : Int) := by unfold wrap64; omega
    have hk2 : IntKind.i64.wrap ((k : Int) + 1) = ((k + 1 : Nat) : Int) := (i64_w _).trans hk1
    have ct := cut_to 30 46 .i64 Tryd.underlying30 hi A l.length c (k : Int) (by omega) (by omega) hcc
    have cf := cut_from 30 46 .i64 Tryd.underlying30 hi 2 hzz.2.1 A l.length c ((k + 1 : Nat) : Int) (by omega) (by omega)
    rw [Int.toNat_natCast] at ct cf
    have hT := Kd.C_take (m := k) hC (by omega)
    have hD := Kd.C_drop (m := k + 1) (c := c) hC (by omega) hcc
    have hD2 : Kd.C k46 w (if c = k + 1 then A else A.map (·.add ((k + 1) * 2))) (l.drop (k + 1)).length (l.drop (k + 1)) := hD
    have hTl : (l.take k).length = k := by rw [List.length_take]; omega
    have hDl : (l.drop (k + 1)).length = l.length - (k + 1) := by rw [List.length_drop]
    have HF := Lib.hid hf
    have hcl := (fun W (hb : Below w.heap.size w W) => Clone_any (l.take k) A c W (Kd.C_below hT hb) (by omega))
    have hwo1 := (fun W (hc : c = k + 1) (hb : Below w.heap.size w W) => Without_any name (l.drop (k + 1)) A 0 W (by rw [if_pos hc] at hD2; exact Kd.C_below hD2 hb) (by omega))
    have hwo2 := (fun W (hc : ¬ c = k + 1) (hb : Below w.heap.size w W) => Without_any name (l.drop (k + 1)) (A.map (·.add ((k + 1) * 2))) (c - (k + 1)) W (by rw [if_neg hc] at hD2; exact Kd.C_below hD2 hb) (by omega))
    rw [hTl] at hcl
    rw [hDl] at hwo1 hwo2
    have hFl := List.length_filter_le (fun x => !isN name x) (l.drop (k + 1))
    rw [hDl] at hFl
    generalize (l.drop (k + 1)).filter (fun x => !isN name x) = FF at *
    have HCl := Lib.hid hcl
    have HW1 := Lib.hid hwo1
    have HW2 := Lib.hid hwo2
    have HDl := Lib.hid hDl
    have HTl := Lib.hid hTl
    clear hf hg h1 h2 h3 hC hT hD hD2 hcl hwo1 hwo2 hi hzz hDl hTl
    go_enter Tryd.func20, Tryd.ntmps20
    go_wp2_with (first
      | (go_at_call 51; (with_reducible refine (HF.out).mono ?_); rintro e w2 ⟨rfl, hb2⟩)
      | (go_at_call 52; go_loud ((with_reducible refine (HCl.out _ hb2).mono ?_); rintro e w3 ⟨v3, rfl, hR3, hb3⟩; have hlw := hb2.size; have hlw3 := hb3.size; have hO := (hR3.lower hlw).below (below_one w3 (.cells #[.string name, .string value] 46)); have hN := RowS.one w3 ⟨name, value⟩; have Hb2 := Lib.hid hb2; have Hb3 := Lib.hid hb3; clear hb2 hb3))
      | (at_builtin; (refine app_flx (W := w3.alloc (.cells #[.string name, .string value] 46)) w.heap.size rfl (.tmp 24) (.tmp 28) rfl _ (l.take k) [⟨name, value⟩] (some ⟨w3.heap.size, 0, none⟩) 1 1 rfl rfl hO hN (by simp; omega) (by rw [HTl.out]; omega) ?_; intro v4 w4 hR4 hb4 _ _; have hL4 := ((below_after Hb2.out Hb3.out).trans (below_le (below_one w3 (.cells #[.string name, .string value] 46)) (by omega))).trans hb4; have hsz4 := hL4.size))
      | (go_at_call 21; first
        | ((with_reducible refine (HW1.out _ (by assumption) hL4).mono ?_); rintro e w5 ⟨v5, rfl, hR5, hb5⟩; obtain ⟨A5, c5, rfl, hc5, hC5⟩ := Kd.R_reads hR5; have hR4' := hR4.below hb5; have hL5 := below_after hL4 hb5; have hsz5 := hb5.size)
        | ((with_reducible refine (HW2.out _ (by assumption) hL4).mono ?_); rintro e w5 ⟨v5, rfl, hR5, hb5⟩; obtain ⟨A5, c5, rfl, hc5, hC5⟩ := Kd.R_reads hR5; have hR4' := hR4.below hb5; have hL5 := below_after hL4 hb5; have hsz5 := hb5.size))
      | (at_builtin; (refine app_flx (W := w5) w.heap.size rfl (.tmp 30) (.tmp 36) rfl _ (l.take k ++ [({ f0 := name, f1 := value } : S46)]) FF A5 FF.length c5 rfl rfl hR4' hC5 (by omega) (by rw [List.length_append, HTl.out, List.length_singleton]; omega) ?_; intro v6 w6 hR6 hb6 _ _)))
    all_goals (go_ret; exact ⟨_, rfl, hR6, hL5.trans hb6⟩)
end FC
end Go.Proofs.YtfbgmlophkbejaaDoor
