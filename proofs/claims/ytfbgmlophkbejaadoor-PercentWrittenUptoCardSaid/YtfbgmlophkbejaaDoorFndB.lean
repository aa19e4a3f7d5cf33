/- Fields: slices.Clone, slices.DeleteFunc, Without. -/
import Derived.Test.YtfbgmlophkbejaaDoorFndA
import Derived.Lib.SliceRun
import Derived.Test.YtfbgmlophkbejaaDoorQPfax3
import Derived.Test.YtfbgmlophkbejaaDoorQPfax0
set_option linter.unusedVariables false
set_option linter.unusedSimpArgs false
namespace Go.Proofs.YtfbgmlophkbejaaDoor
open Go.RowKit Go.Proofs.YtfbgmlophkbejaaDoorW.PrintWords Go.Proofs.YtfbgmlophkbejaaDoorW.PrintLast Go.Proofs.YtfbgmlophkbejaaDoorQ.Pfa
namespace FC
theorem info_fl : (Tryd.prog.info? 46).map (fun i => (i.zero, i.size, i.bytes)) = some (some (.agg #[.string ByteArray.empty, .string ByteArray.empty]), 2, 32) := by kernel_rfl
/-- a row of fields of the call's own -/
def RowS (W : World) (B : Nat) (v : Value) (X : List S46) : Prop := Kd.R k46 46 W B (fun _ => True) v X
theorem RowS.made (W : World) (B : Nat) (hB : B = W.heap.size) : RowS (W.alloc (.cells #[] 46)) B (.slice (some ⟨B, 0, none⟩) 0 0) [] := by
  subst hB
  exact ⟨fun _ _ => trivial, [], World.ownsRow_made W #[] 0 (Nat.le_refl _) (Nat.zero_le _) rfl, Reps.none _ _⟩
theorem RowS.lower {W : World} {B B' : Nat} {v : Value} {X : List S46} (h : RowS W B v X) (hb : B' ≤ B) : RowS W B' v X := Kd.R_lower h hb
theorem RowS.below {W W' : World} {B : Nat} {v : Value} {X : List S46} (h : RowS W B v X) (hb : Below W.heap.size W W') : RowS W' B v X := Kd.R_below h hb
theorem app_flx {ops : Array Oper} {rest : List Oper} {o : Oper} {a : Act} {Q : Exit → Act → World → Prop} {W : World} (B : Nat) (hgd : o.guard = none) (s x : Operand)
    (ho : o.op = .call { callee := .builtin .append, args := #[s, x], argTypes := #[30, 30] })
    (v : Value) (X Z : List S46) (A1 : Option Addr) (m c : Nat) (hs : a.eval s = v) (hx : a.eval x = .slice A1 m c) (HO : RowS W B v X) (HR : Kd.C k46 W A1 m Z) (hB : B ≤ W.heap.size) (hl : X.length + m ≤ 1099511627776)
    (h : ∀ v1 w1, RowS w1 B v1 (X ++ Z) → Below B W w1 → W.grownBy w1 v.ownBlock → (v1.ownBlock = v.ownBlock ∨ ∃ b, v1.ownBlock = some b ∧ W.heap.size ≤ b) → wpList Tryd.prog ops Q rest (a.put o.dst v1) w1) :
    wpList Tryd.prog ops Q (o :: rest) a W :=
  Kd.R_append_rows k46 (Rr := k46.K W) (w0 := W) B hgd s x 30 46 _ 32 ho Tryd.underlying30 info_fl rfl (by decide) (by decide) v X Z A1 m c (fun _ => True) (fun _ => False) hs hx HO HR (fun y cs hK => by rw [k46_open hK]; exact k46_mkM _ _ _ y) (fun _ hk => hk.elim) (fun _ _ => trivial) (Below.refl _ _) hB (by omega) h
set_option maxRecDepth 100000 in
theorem Clone_any (l : List S46) (A : Option Addr) (c : Nat) (w : World) (hC : Kd.C k46 w A l.length l) (hl : l.length ≤ 1073741824) : Calls Tryd.prog 52 #[.slice A l.length c] w fun e w' => ∃ v, e = .returned v ∧ RowS w' w.heap.size v l ∧ Below w.heap.size w w' := by
  have q : ∀ (w : World) (a : Option Addr) (n c n' c' : Nat), (binOp .eql 30 (.slice a n c) (.slice none n' c')).run Tryd.prog w = .ok (.bool a.isNone) w := fun w a n c n' c' => Lib.run_eql_slice_nil w _ _ a n c n' c' Tryd.underlying30
  cases A with
  | none =>
    have h0 : l = [] := by
      rcases Nat.eq_zero_or_pos l.length with h | h
      · exact List.eq_nil_of_length_eq_zero h
      · obtain ⟨ad, e, _⟩ := hC.2.2 h
        cases e
    subst h0
    clear hC
    go_enter Tryd.func52, Tryd.ntmps52
    go_wp2
    go_ret
    exact ⟨_, rfl, Kd.R_nil _ _ _ _ _, Below.refl _ _⟩
  | some ad =>
    have hb := below_one w (.cells #[] 46)
    have HC := Lib.hid (Kd.C_below hC hb)
    have HM := Lib.hid (RowS.made w _ rfl)
    clear hC
    go_enter Tryd.func52, Tryd.ntmps52
    go_wp2_with (at_builtin; (refine app_flx w.heap.size rfl (.tmp 5) (.tmp 6) rfl _ [] l (some ad) l.length c rfl rfl HM.out HC.out (by simp) (by simp; omega) ?_; intro v1 w1 h1 h2 h3 h4))
    go_ret
    exact ⟨_, rfl, h1, hb.trans (by simpa using h2)⟩
theorem Reps.takeK {R : S46 → List Value → Prop} {X : List S46} {inner : List Value} (h : Reps R 2 X inner) (i : Nat) (hi : i ≤ X.length) : Reps R 2 (X.take i) (inner.take (i * 2)) := by
  have hl := h.1
  refine ⟨by rw [List.length_take, List.length_take, hl]; omega, fun j p hj => ?_⟩
  have hji : j < i := by
    have := (List.getElem?_eq_some_iff.1 hj).1
    rw [List.length_take] at this
    omega
  rw [List.getElem?_take_of_lt hji] at hj
  have h2 := h.2 j p hj
  have e : ((inner.take (i * 2)).drop (j * 2)).take 2 = (inner.drop (j * 2)).take 2 := by
    rw [List.drop_take, List.take_take, Nat.min_eq_left (by omega)]
  rw [e]
  exact h2
/-- what is cut off a row behind, and written over -/
theorem RowS.cut {W : World} {B q n cap : Nat} {X : List S46} (h : RowS W B (.slice (some ⟨q, 0, none⟩) n cap) X) (i : Nat) (hi : i ≤ n) (vs : List Value) (hv : i * 2 + vs.length ≤ cap * 2) : RowS (W.setCells q (i * 2) vs) B (.slice (some ⟨q, 0, none⟩) i cap) (X.take i) := by
  have hn := (Kd.R_reads' h).1
  obtain ⟨h0, inner, ⟨hlen, hcase⟩, hr⟩ := h
  rcases hcase with ⟨e, _⟩ | ⟨g, cap', cur, e, hbg, hh, hnc, hcm, hcs, htake⟩
  · cases e
  injection e with e1 e2 e3
  injection e1 with e1
  injection e1 with e1
  subst e1 e3
  have hcs' : cur.size = cap * 2 := hcs
  obtain ⟨cur', h3, h4, h5⟩ := setCells_row vs (i * 2) W cur hh (by omega)
  have hr' : Reps _ 2 (X.take i) (inner.take (i * 2)) := Reps.takeK hr i (by omega)
  have hXi : (X.take i).length = i := by rw [List.length_take]; omega
  refine ⟨fun _ _ => trivial, inner.take (i * 2), ?_, ?_⟩
  · rw [hXi]
    have htk : cur'.toList.take (i * 2) = inner.take (i * 2) := by
      have hl1 : (cur.toList.take (i * 2)).length = i * 2 := by rw [List.length_take, Array.length_toList]; omega
      rw [h5, List.append_assoc, List.take_append_of_le_length (by omega), List.take_of_length_le (by omega), ← htake, List.take_take]
      congr 1
      show i * 2 = min (i * 2) (X.length * 2)
      omega
    refine ⟨?_, Or.inr ⟨q, cap, cur', rfl, hbg, h3, by omega, hcm, by rw [h4]; exact hcs, htk⟩⟩
    rw [← htk, List.length_take, Array.length_toList, h4, hcs']
    show min (i * 2) (cap * 2) = i * 2
    omega
  · exact hr'.imp_ (fun x c hp => by rw [k46_openM hp]; exact k46_mkM _ _ _ x)
theorem run_clear_two (w : World) (ty : TypeId) (b o n c : Nat) (hc : ∀ j, j < n * 2 → (w.cell? ⟨b, o + j, none⟩).isSome = true) (hf : ∀ j, j < n * 2 → w.frozen? ⟨b, o + j, none⟩ = false) :
    ∃ vs : List Value, vs.length = n * 2 ∧ (Builtin.clear_ #[30] ty #[.slice (some ⟨b, o, none⟩) n c]).run Tryd.prog w = .ok (.tuple #[]) (w.setCells b o vs) := by
  cases n with
  | zero => exact ⟨[], rfl, by simp [Builtin.clear_, run_underlying Tryd.underlying30, World.setCells]⟩
  | succ m =>
    obtain ⟨i0, hi, hzz⟩ := Option.map_eq_some_iff.1 info_fl
    simp only [Prod.mk.injEq] at hzz
    obtain ⟨hz0, hz1, hz2⟩ := hzz
    have hz : ∀ w, (zeroValue 46).run Tryd.prog w = .ok (.agg #[.string ByteArray.empty, .string ByteArray.empty]) w := fun w => by simp [zeroValue, typeInfo, hi, hz0]
    have hlen : (Builtin.zeroCells (Value.agg #[.string ByteArray.empty, .string ByteArray.empty]).cells (m + 1)).toList.length = (m + 1) * 2 := by
      unfold Builtin.zeroCells
      rw [Array.length_toList, Array.size_map, Array.size_range]
      rfl
    have hone : ∀ u ∈ (Builtin.zeroCells (Value.agg #[.string ByteArray.empty, .string ByteArray.empty]).cells (m + 1)).toList, u.oneCell' = true := fun u hu => by
      unfold Builtin.zeroCells at hu
      rw [Array.mem_toList_iff, Array.mem_map] at hu
      obtain ⟨x, _, rfl⟩ := hu
      have hx : x % (Value.agg #[.string ByteArray.empty, .string ByteArray.empty]).cells.size < 2 := Nat.mod_lt _ (by decide)
      generalize x % (Value.agg #[.string ByteArray.empty, .string ByteArray.empty]).cells.size = y at hx
      match y, hx with
      | 0, _ => rfl
      | 1, _ => rfl
    have hst := run_storeCells_cells (P := Tryd.prog) b o (Builtin.zeroCells (Value.agg #[.string ByteArray.empty, .string ByteArray.empty]).cells (m + 1)).toList 0 w (by rw [hlen]; simpa using hc) (by rw [hlen]; simpa using hf) hone
    simp only [Nat.add_zero] at hst
    exact ⟨_, hlen, by simp [Builtin.clear_, run_underlying Tryd.underlying30, hz, hst]⟩
theorem below_le {w w1 : World} {B : Nat} (h : Below w.heap.size w w1) (hB : B ≤ w.heap.size) : Below B w w1 := ⟨h.os, h.tape, h.output, h.size, fun i hi => h.block i (by omega)⟩
def DelAt (name : ByteArray) (l : List S46) (a b : Nat) (X : List S46) : Prop := X.length = l.length ∧ X.take a = (l.take b).filter (fun x => !isN name x) ∧ X.drop b = l.drop b
theorem rd_at (l : List S46) (k : Nat) (h : k < l.length) : rd_T46 l (k : Int) = l[k] := by unfold rd_T46; rw [Int.toNat_natCast, List.getD_eq_getElem?_getD, List.getElem?_eq_getElem h]; rfl
theorem setc_below {B q : Nat} (w : World) (h : B ≤ q) (vs : List Value) (o : Nat) : Below B w (w.setCells q o vs) := by
  obtain ⟨h1, h2, h3, h4⟩ := setCells_same q vs o w
  exact ⟨h1, h2, h3, Nat.le_of_eq h4.symm, fun i hi => setCells_far vs o i (by omega)⟩
set_option maxRecDepth 100000 in
set_option maxHeartbeats 4000000 in
theorem Del_any (name : ByteArray) (l : List S46) (v : Value) (B g : Nat) (w : World) (hR : RowS w B v l) (hg : g < B) (hB : B ≤ w.heap.size) (hK : Blk w g 9 #[.string name]) (hl : l.length ≤ 1073741824) :
    Calls Tryd.prog 53 #[v, .func (.func 54) #[] #[.pointer (some ⟨g, 0, none⟩)]] w fun e w' => ∃ v', e = .returned v' ∧ RowS w' B v' (l.filter fun x => !isN name x) ∧ Below B w w' := by
  obtain ⟨A1, c1, rfl, hc1, hC⟩ := Kd.R_reads hR
  have hi := index_any 54 #[.pointer (some ⟨g, 0, none⟩)] (enter_fn Tryd.func54 (by kernel_rfl) (by kernel_rfl)) (isN name) l A1 c1 w hC (fun W x hW => With1_any name x _ W (hK.after hW))
  rcases fixF_cases (isN name) l 0 with ⟨h1, h2⟩ | ⟨k, hk, h1, h2, h3⟩
  · rw [h1] at hi
    have hf : (l.filter fun x => !isN name x) = l := List.filter_eq_self.2 fun x hx => by rw [h2 x hx]; rfl
    rw [hf]
    have HI := Lib.hid hi
    have HR := Lib.hid hR
    clear hi hR hC h1 h2 hf hK
    go_enter Tryd.func53, Tryd.ntmps53
    go_wp2_with (go_at_call 78; (with_reducible refine (HI.out).mono ?_); rintro e w2 ⟨rfl, hb2⟩)
    go_ret
    exact ⟨_, rfl, HR.out.below hb2, below_le hb2 hB⟩
  · rw [h1, Int.zero_add] at hi
    obtain ⟨inner, ho⟩ := Kd.R_own hR
    obtain ⟨q, cap, hv, hBq, hlt⟩ := ho.form (by omega)
    injection hv with hv1 hv2 hv3
    subst hv1 hv3
    have hst : Hid (DelAt name l k (k + 1) l) := Lib.hid ⟨rfl, by
      rw [List.take_succ_eq_append_getElem hk, List.filter_append, List.filter_eq_self.2 (fun x hx => by rw [h3 x hx]; rfl), List.filter_cons, h2]
      simp, rfl⟩
    have HI := Lib.hid hi
    have HR := Lib.hid hR
    have HK := Lib.hid hK
    clear hi hR hC h1 h2 h3 hK
    go_enter Tryd.func53, Tryd.ntmps53
    go_wp2_with (go_at_call 78; (with_reducible refine (HI.out).mono ?_); rintro e w2 ⟨rfl, hb2⟩)
    have HR2 := Lib.hid (HR.out.below hb2)
    have HK2 := Lib.hid (HK.out.after hb2)
    have HB2 := Lib.hid (below_le hb2 hB)
    have hq2 : q < w2.heap.size := by have := hb2.size; omega
    clear hb2
    have hkd : ((k : Int) == -1) = false := beq_eq_false_iff_ne.2 (by omega)
    simp only [hkd]
    clear hkd
    go_loopw [5, 6] (fun i j wr => ∃ (a b : Nat) (X : List S46), i = .int .i64 (a : Int) ∧ j = .int .i64 (b : Int) ∧ a < b ∧ b ≤ l.length ∧ Hid (DelAt name l a b X) ∧ Hid (RowS wr B (.slice (some ⟨q, 0, none⟩) l.length c1) X) ∧ Hid (Blk wr g 9 #[.string name]) ∧ Hid (Below B w wr) ∧ q < wr.heap.size) (fun _ j _ => l.length - (intOf j).toNat)
    case atStart => exact ⟨k, k + 1, l, rfl, by simp, by omega, by omega, hst, HR2, HK2, HB2, hq2⟩
    case round =>
      clear hst HR2 HK2 HB2 hq2
      obtain ⟨a, b, X, rfl, rfl, hab, hbl, hD, hX, hK, hW, hq⟩ := hrel
      by_cases hlt : b < l.length
      · have hXl : X.length = l.length := hD.out.1
        obtain ⟨ad, e, d0, d1⟩ := at_T46 (Kd.R_reads' hX.out).2.2 (b : Int) (by omega) (by omega)
        obtain rfl := Option.some.inj e
        simp only [Int.toNat_natCast, Addr.add_lit, Nat.zero_add] at d0 d1
        have hr : rd_T46 X (b : Int) = l[b] := by
          rw [rd_at X b (by omega)]
          have h1 := congrArg (·[0]?) hD.out.2.2
          simp only [List.getElem?_drop, Nat.add_zero] at h1
          rw [List.getElem?_eq_getElem (by omega), List.getElem?_eq_getElem hlt] at h1
          exact Option.some.inj h1
        rw [hr] at d0 d1
        generalize hy : l[b] = y at *
        have HY := Lib.hid hy
        clear hr hy
        have hK1 : Blk (wr.alloc (.cells #[.string y.f0, .string y.f1] 46)) g 9 #[.string name] := hK.out.alloc _
        have hV1 : Blk (wr.alloc (.cells #[.string y.f0, .string y.f1] 46)) wr.heap.size 46 #[.string y.f0, .string y.f1] := Blk.new _ _ _
        have hX1 := hX.out.below (below_one wr (.cells #[.string y.f0, .string y.f1] 46))
        have hW1 : Below B w (wr.alloc (.cells #[.string y.f0, .string y.f1] 46)) := hW.out.alloc (by have := hW.out.size; omega) _
        have hq1 : q < (wr.alloc (.cells #[.string y.f0, .string y.f1] 46)).heap.size := by simp; omega
        have hBw : B ≤ (wr.alloc (.cells #[.string y.f0, .string y.f1] 46)).heap.size := Nat.le_trans hB hW1.size
        have HC1 := Lib.hid (With1_any name y g _ hK1)
        have HK1 := Lib.hid hK1
        have HV1 := Lib.hid hV1
        have HX1 := Lib.hid hX1
        have HW1 := Lib.hid hW1
        clear hK1 hV1 hX1 hW1
        cases hc : isN name y with
        | true =>
          have hn : Hid (DelAt name l a (b + 1) X) := Lib.hid ⟨hXl, by
            rw [List.take_succ_eq_append_getElem hlt, List.filter_append, HY.out, List.filter_cons, hc, hD.out.2.1]
            simp, by
            have h1 := congrArg (List.drop 1) hD.out.2.2
            rw [List.drop_drop, List.drop_drop] at h1
            exact h1⟩
          have hc1 := HC1.out
          unfold valF at hc1
          rw [hc] at hc1
          have HC2 := Lib.hid hc1
          clear hc1 hc
          go_wp2_with (go_at_call 54; (with_reducible refine (HC2.out).mono ?_); rintro e w3 ⟨rfl, hb3⟩)
          exact ⟨⟨a, b + 1, X, rfl, by simp, by omega, by omega, hn, Lib.hid (HX1.out.below hb3), Lib.hid (HK1.out.after hb3), Lib.hid (HW1.out.trans (below_le hb3 hBw)), by have := hb3.size; omega⟩, by simp [intOf]; omega⟩
        | false =>
          have hn : Hid (DelAt name l (a + 1) (b + 1) (X.set a y)) := Lib.hid ⟨by rw [List.length_set]; exact hXl, by
            rw [List.take_succ_eq_append_getElem hlt, List.filter_append, HY.out, List.filter_cons, hc, ← hD.out.2.1, List.take_succ_eq_append_getElem (by rw [List.length_set]; omega), List.take_set_of_le (Nat.le_refl _), List.getElem_set_self]
            simp, by
            have h1 := congrArg (List.drop 1) hD.out.2.2
            rw [List.drop_drop, List.drop_drop] at h1
            rw [List.drop_set_of_lt (by omega)]
            exact h1⟩
          have hc1 := HC1.out
          unfold valF at hc1
          rw [hc] at hc1
          have HC2 := Lib.hid hc1
          clear hc1 hc
          go_wp2_with (first
            | (go_at_call 54; (with_reducible refine (HC2.out).mono ?_); rintro e w3 ⟨rfl, hb3⟩; have hV3 := HV1.out.after hb3; have f0 : w3.cell? ⟨wr.heap.size, 0, none⟩ = some (.string y.f0) := hV3.cell 0; have f1 : w3.cell? ⟨wr.heap.size, 1, none⟩ = some (.string y.f1) := hV3.cell 1; have hX3 := HX1.out.below hb3; obtain ⟨ad, e, p0, p1⟩ := at_T46 (Kd.R_reads' hX3).2.2 (a : Int) (by omega) (by omega); obtain rfl := Option.some.inj e; simp only [Int.toNat_natCast, Addr.add_lit, Nat.zero_add] at p0 p1; have D0 := Lib.hid p0; have D1 := Lib.hid p1; clear p0 p1; have X3 := Lib.hid hX3; have hBw3 : B ≤ w3.heap.size := by have := hb3.size; omega)
            | ((with_reducible refine gate_store (t := 46) (p := 33) (v := .tmp 32) rfl ?_); go_loud (refine Kd.R_store k46 (w0 := w3) B rfl rfl 46 (.tmp 33) (.tmp 32) rfl 46 (a : Int) 0 X y (valF y) [.string y.f0, .string y.f1] [.string (rd_T46 X (a : Int)).f0, .string (rd_T46 X (a : Int)).f1] (fun _ => True) (fun _ => False) rfl (show a * 2 = a * 2 + 0 from rfl) rfl rfl (by kernel_rfl) (by simp [Value.oneCell']) X3.out (by omega) (by omega) rfl ?hcc (by show 0 + 2 ≤ 2; omega) (k46_mkM _ _ _ y) (fun _ h => h.elim) (Below.refl _ _) ?_; (case hcc => intro j u hj; match j, hj with | 0, hj => exact (Option.some.inj hj) ▸ D0.out | 1, hj => exact (Option.some.inj hj) ▸ D1.out); intro w4 hX4 hb4 hg4)))
          exact ⟨⟨a + 1, b + 1, X.set a y, by simp, by simp, by omega, by omega, hn, Lib.hid hX4, Lib.hid ((HK1.out.after hb3).grown hg4 (by simp; omega)), Lib.hid ((HW1.out.trans (below_le hb3 hBw)).trans hb4), by have := hg4.size; have := hb3.size; omega⟩, by simp [intOf]; omega⟩
      · obtain rfl : b = l.length := by omega
        obtain ⟨inner2, ho2⟩ := Kd.R_own hX.out
        rcases ho2.2 with ⟨e, _⟩ | ⟨g2, cap2, cur, e, hbg, hh, hnc, hcm, hcs, htake⟩
        · cases e
        injection e with e1 e2 e3
        injection e1 with e1
        injection e1 with e1
        subst e1 e3
        have hcs' : cur.size = c1 * 2 := hcs
        have hcl := fun ty => run_clear_two wr ty q (a * 2) (l.length - a) (c1 - a) (fun j hj => by rw [cell_of_row wr q _ cur 46 (0, 0) hh]; simp; omega) (fun j _ => blk_frozen hh _)
        obtain ⟨vs, hvs, hcl⟩ := hcl 0
        have hcut := Lib.hid (RowS.cut hX.out a (by omega) vs (by omega))
        have hgr : q < wr.heap.size ∧ B ≤ q := ⟨hq, hBq⟩
        clear e2 ho2 hcs hcs' htake hh hnc hvs
        go_wp2
        go_ret
        have hD1 := hD.out.2.1
        rw [List.take_length] at hD1
        rw [← hD1]
        exact ⟨_, rfl, hcut.out, hW.out.trans (setc_below wr hBq vs (a * 2))⟩
end FC
end Go.Proofs.YtfbgmlophkbejaaDoor
