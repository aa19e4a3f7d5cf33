/- OctetSets: the walk of the statement. (Written by wip/gen/lsets.py.) -/
import Derived.Test.YtjiapggmiddpdaaOctT
import Derived.Test.YtjiapggmiddpdaaOctU
import Derived.Test.YtjiapggmiddpdaaOctC
set_option linter.unusedVariables false
set_option linter.unusedSimpArgs false
namespace Go.Proofs.Ytjiapggmiddpdaa
open Go.RowKit Go.Proofs.YtjiapggmiddpdaaW.PrintWords Go.Proofs.YtjiapggmiddpdaaW.PrintLast
theorem Blk.cells3 {w : World} {g : Nat} {t : TypeId} {v0 v1 v2 : Value} (h : Blk w g t #[v0, v1, v2]) : w.cell? ⟨g, 0, none⟩ = some v0 ∧ w.cell? ⟨g, 1, none⟩ = some v1 ∧ w.cell? ⟨g, 2, none⟩ = some v2 := ⟨h.cell 0, h.cell 1, h.cell 2⟩
theorem equal4_t4 (x0 x1 x2 x3 : Int) (w : World) : (Op.equalIn 10000 23 (set4 x0 x1 x2 x3) (set4 x0 x1 x2 x3)).run Try.prog w = .ok true w := by
  obtain ⟨i, hi, hz⟩ := Option.map_eq_some_iff.1 info_u64
  have r4 : List.range 4 = [0, 1, 2, 3] := rfl
  have q0 : (part 22 #[Value.int .u64 x0, .int .u64 x1, .int .u64 x2, .int .u64 x3] 0).run Try.prog w = .ok (.int .u64 x0) w := by kernel_rfl
  have q1 : (part 22 #[Value.int .u64 x0, .int .u64 x1, .int .u64 x2, .int .u64 x3] 1).run Try.prog w = .ok (.int .u64 x1) w := by kernel_rfl
  have q2 : (part 22 #[Value.int .u64 x0, .int .u64 x1, .int .u64 x2, .int .u64 x3] 2).run Try.prog w = .ok (.int .u64 x2) w := by kernel_rfl
  have q3 : (part 22 #[Value.int .u64 x0, .int .u64 x1, .int .u64 x2, .int .u64 x3] 3).run Try.prog w = .ok (.int .u64 x3) w := by kernel_rfl
  have hq := eq_u64 9998 w
  rw [show (10000 : Nat) = 9999 + 1 from rfl, run_equalIn_array (w := w) 9999 _ _ Try.underlying23 hi, cells_u64, r4]
  simp only [Nat.reduceAdd] at hq
  simp [Op.eqItems, Sem.run_bind, Result.andThen_ok, q0, q1, q2, q3, hq]
theorem grown_setCell (w : World) (g i : Nat) (u : Value) : w.grownBy (w.setCell ⟨g, i, none⟩ u) (some g) := by
  refine ⟨by simp [World.setCell], by simp [World.setCell], by simp [World.setCell], by simp, fun j hj hne => Below.heap_setCell w _ u j (fun e => hne (by rw [e]))⟩
theorem memK_congr {p q : Int → Bool} : ∀ n : Nat, (∀ b : Int, 0 ≤ b → b < n → p b = q b) → memK p n = memK q n
  | 0, _ => by rw [memK_zero, memK_zero]
  | n + 1, h => by
    rw [memK, memK, memK_congr n (fun b h0 h1 => h b h0 (by omega)), h n (by omega) (by omega)]
theorem members_is {x0 x1 x2 x3 : Int} {mem : List Int} (w : World) (h : memK (inSet [x0, x1, x2, x3]) 256 = mem) : Calls Try.prog 28 #[set4 x0 x1 x2 x3] w fun e w' => e = .returned (.string (strOfNums mem)) ∧ Below w.heap.size w w' := by
  subst h
  exact members_any x0 x1 x2 x3 w
theorem or_01 (a b : Bool) : (bits .or .u8 (if a = true then 1 else 0) (if b = true then 1 else 0) == 1) = (a || b) := by cases a <;> cases b <;> kernel_rfl
theorem and_01 (a b : Bool) : (bits .and .u8 (if a = true then 1 else 0) (if b = true then 1 else 0) == 1) = (a && b) := by cases a <;> cases b <;> kernel_rfl
theorem andNot_01 (a b : Bool) : (bits .andNot .u8 (if a = true then 1 else 0) (if b = true then 1 else 0) == 1) = (a && !b) := by cases a <;> cases b <;> kernel_rfl
theorem one_01 (a : Bool) : ((if a = true then (1 : Int) else 0) == 1) = a := by cases a <;> rfl
theorem sets_step {l m n : List Int} {f : Int → Int → Int} {k : Int} (hk : 0 ≤ k) (hk1 : k < 256) (hl : l.length = 256) (h : ∀ j, 0 ≤ j → j < k → rd l j = f (rd m j) (rd n j)) :
    ∀ j, 0 ≤ j → j < k + 1 → rd (l.set k.toNat (f (rd m k) (rd n k))) j = f (rd m j) (rd n j) := by
  intro j h0 h1
  rw [rd_set l k j _ hk (by omega) h0]
  by_cases e : j = k
  · subst e; rw [if_pos rfl]
  · rw [if_neg e]; exact h j h0 (by omega)
set_option maxRecDepth 100000 in
set_option maxHeartbeats 40000000 in
theorem octetSets_any (f1 t1 f2 t2 x : Int) (A1 A2 : Option Addr) (c1 c2 : Nat) (xs ys : List Int) (w : World) (hf1 : 0 ≤ f1 ∧ f1 ≤ 255) (ht1 : 0 ≤ t1 ∧ t1 ≤ 255) (hf2 : 0 ≤ f2 ∧ f2 ≤ 255) (ht2 : 0 ≤ t2 ∧ t2 ≤ 255) (hx : 0 ≤ x ∧ x ≤ 255)
    (hrx : ∀ a ∈ xs, 0 ≤ a ∧ a ≤ 255) (hry : ∀ a ∈ ys, 0 ≤ a ∧ a ≤ 255) (R1 : ReadsInt w .u8 A1 xs.length xs) (R2 : ReadsInt w .u8 A2 ys.length ys) (hsx : xs.length ≤ 140737488351232) :
    Calls Try.prog 6 #[.agg #[.int .u8 f1, .int .u8 t1, .slice A1 xs.length c1], .agg #[.int .u8 f2, .int .u8 t2, .slice A2 ys.length c2], .int .u8 x] w fun e w' => e = .returned (.bool true) ∧ Below w.heap.size w w' := by
  have Hrx := Lib.hid hrx
  have Hry := Lib.hid hry
  have HR1 := Lib.hid R1
  have HR2 := Lib.hid R2
  clear hrx hry R1 R2
  have HO : Hid ((((w.alloc (.cells #[.int .u8 f1, .int .u8 t1, .slice A1 xs.length c1] 46)).alloc (.cells #[.int .u8 f2, .int .u8 t2, .slice A2 ys.length c2] 46)).alloc (.cells #[] 5)).ownsRow w.heap.size 5 1 (.slice (some ⟨w.heap.size + 1 + 1, 0, none⟩) 0 0) ([] : List Int).length (nums .u8 [])) := by
    have h := own_lit ((w.alloc (.cells #[.int .u8 f1, .int .u8 t1, .slice A1 xs.length c1] 46)).alloc (.cells #[.int .u8 f2, .int .u8 t2, .slice A2 ys.length c2] 46)) w.heap.size 5 .u8 [] (below_alloc (below_one _ _) _).size (by simp)
    rw [show ((w.alloc (.cells #[.int .u8 f1, .int .u8 t1, .slice A1 xs.length c1] 46)).alloc (.cells #[.int .u8 f2, .int .u8 t2, .slice A2 ys.length c2] 46)).heap.size = w.heap.size + 1 + 1 from by simp] at h
    exact h
  go_enter Try.func6, Try.ntmps6
  go_upto_region 2 with (at_builtin; go_loud (refine print_append_row (w0 := w) w.heap.size rfl (.tmp 17) (.tmp 19) 44 5 .u8 1 rfl Try.underlying44 info_u8 (by decide) _ [] xs A1 xs.length c1 rfl rfl HO.out (HR1.out.below (below_alloc (below_alloc (below_one _ _) _) _)) (below_alloc (below_alloc (below_one _ _) _) _) (below_alloc (below_alloc (below_one _ _) _) _).size (by simp only [List.length_nil]; omega) ?_); intro v7 w1 ho7 hb7 hg7 hat7)
  have B3 : Blk w1 w.heap.size 46 #[.int .u8 f1, .int .u8 t1, .slice A1 xs.length c1] := (((Blk.new _ _ _).alloc _).alloc _).grown hg7 (fun h => by have h' : w.heap.size = w.heap.size + 1 + 1 := Option.some.inj h; omega)
  have B4 : Blk w1 (w.heap.size + 1) 46 #[.int .u8 f2, .int .u8 t2, .slice A2 ys.length c2] := ((Blk.at_new (by simp)).alloc _).grown hg7 (fun h => by have h' : w.heap.size + 1 = w.heap.size + 1 + 1 := Option.some.inj h; omega)
  rw [List.nil_append] at ho7
  obtain ⟨A7, c7, rfl, hR7⟩ := own_reads ho7
  have HR7 := Lib.hid hR7
  replace HR1 := Lib.hid (HR1.out.below hb7)
  replace HR2 := Lib.hid (HR2.out.below hb7)
  clear ho7 hg7 hat7 hR7
  have hbel : Below w1.heap.size w1 w1 := Below.refl _ _
  have hst : ∀ wa wb : World, Below w1.heap.size w1 wa → Below wa.heap.size wa wb → Below w1.heap.size w1 wb := fun _ _ h k => below_after h k
  have hsz : ∀ wa : World, Below w1.heap.size w1 wa → w1.heap.size ≤ wa.heap.size := fun _ h => h.size
  refine start_ (n := 18) (S := (fun w' => Below w1.heap.size w1 w')) (ds := []) #[false, false, false, false, false, false, false, false, false, false, false, false, false, false, false, false, false, false] (by kernel_rfl) rfl rfl hbel.drew (fun hHeld => ?_)
  refine pure_ (i := 0) (N := some 21) (v := ?_) (a' := ?_) #[true, false, false, false, false, false, false, false, false, false, false, false, false, false, false, false, false, false] rfl rfl (by kernel_rfl) (fun _ _ _ h => h) (Or.inl ⟨by rfl, ?_⟩) ?_ ?_
  rotate_left
  · intro w'
    go_simp
    with_reducible rfl
  rotate_left
  · simp only [Act.put, List.setIfInBounds_toArray, List.set_cons_zero, List.set_cons_succ, i64_w, i32_w]
    rfl
  refine pure_ (i := 2) (N := some 23) (v := ?_) (a' := ?_) #[true, false, true, false, false, false, false, false, false, false, false, false, false, false, false, false, false, false] rfl rfl (by kernel_rfl) (fun _ _ _ h => h) (Or.inl ⟨by rfl, ?_⟩) ?_ ?_
  rotate_left
  · intro w'
    go_simp
    with_reducible rfl
  rotate_left
  · simp only [Act.put, List.setIfInBounds_toArray, List.set_cons_zero, List.set_cons_succ, i64_w, i32_w]
    rfl
  refine pure_ (i := 4) (N := some 25) (v := ?_) (a' := ?_) #[true, false, true, false, true, false, false, false, false, false, false, false, false, false, false, false, false, false] rfl rfl (by kernel_rfl) (fun _ _ _ h => h) (Or.inl ⟨by rfl, ?_⟩) ?_ ?_
  rotate_left
  · intro w'
    go_simp
    with_reducible rfl
  rotate_left
  · simp only [Act.put, List.setIfInBounds_toArray, List.set_cons_zero, List.set_cons_succ, i64_w, i32_w]
    rfl
  refine pure_ (i := 7) (N := some 28) (v := ?_) (a' := ?_) #[true, false, true, false, true, false, false, true, false, false, false, false, false, false, false, false, false, false] rfl rfl (by kernel_rfl) (fun _ _ _ h => h) (Or.inl ⟨by rfl, ?_⟩) ?_ ?_
  rotate_left
  · intro w'
    go_simp
    with_reducible rfl
  rotate_left
  · simp only [Act.put, List.setIfInBounds_toArray, List.set_cons_zero, List.set_cons_succ, i64_w, i32_w]
    rfl
  refine pure_ (i := 9) (N := some 30) (v := ?_) (a' := ?_) #[true, false, true, false, true, false, false, true, false, true, false, false, false, false, false, false, false, false] rfl rfl (by kernel_rfl) (fun _ _ _ h => h) (Or.inl ⟨by rfl, ?_⟩) ?_ ?_
  rotate_left
  · intro w'
    go_simp
    with_reducible rfl
  rotate_left
  · simp only [Act.put, List.setIfInBounds_toArray, List.set_cons_zero, List.set_cons_succ, i64_w, i32_w]
    rfl
  refine pure_ (i := 11) (N := some 32) (v := ?_) (a' := ?_) #[true, false, true, false, true, false, false, true, false, true, false, true, false, false, false, false, false, false] rfl rfl (by kernel_rfl) (fun _ _ _ h => h) (Or.inl ⟨by rfl, ?_⟩) ?_ ?_
  rotate_left
  · intro w'
    go_simp
    with_reducible rfl
  rotate_left
  · simp only [Act.put, List.setIfInBounds_toArray, List.set_cons_zero, List.set_cons_succ, i64_w, i32_w]
    rfl
  refine take_ (i := 1) (N := some 22) (v := ?_) (a' := ?_) #[true, true, true, false, true, false, false, true, false, true, false, true, false, false, false, false, false, false] rfl rfl (by kernel_rfl) (fun _ _ _ h => h) (Or.inl ⟨by rfl, ?_⟩) hHeld ?_ ?_
  rotate_left
  · rintro w' s1
    obtain ⟨z0, z1, z2⟩ := (B3.after s1).cells3
    obtain ⟨z3, z4, z5⟩ := (B4.after s1).cells3
    go_simp
    with_reducible rfl
  rotate_left
  · simp only [Act.put, List.setIfInBounds_toArray, List.set_cons_zero, List.set_cons_succ, i64_w, i32_w]
    rfl
  refine take_ (i := 3) (N := some 24) (v := ?_) (a' := ?_) #[true, true, true, true, true, false, false, true, false, true, false, true, false, false, false, false, false, false] rfl rfl (by kernel_rfl) (fun _ _ _ h => h) (Or.inl ⟨by rfl, ?_⟩) hHeld ?_ ?_
  rotate_left
  · rintro w' s1
    obtain ⟨z0, z1, z2⟩ := (B3.after s1).cells3
    obtain ⟨z3, z4, z5⟩ := (B4.after s1).cells3
    go_simp
    with_reducible rfl
  rotate_left
  · simp only [Act.put, List.setIfInBounds_toArray, List.set_cons_zero, List.set_cons_succ, i64_w, i32_w]
    rfl
  refine take_ (i := 5) (N := some 26) (v := ?_) (a' := ?_) #[true, true, true, true, true, true, false, true, false, true, false, true, false, false, false, false, false, false] rfl rfl (by kernel_rfl) (fun _ _ _ h => h) (Or.inl ⟨by rfl, ?_⟩) hHeld ?_ ?_
  rotate_left
  · rintro w' s1
    obtain ⟨z0, z1, z2⟩ := (B3.after s1).cells3
    obtain ⟨z3, z4, z5⟩ := (B4.after s1).cells3
    go_simp
    with_reducible rfl
  rotate_left
  · simp only [Act.put, List.setIfInBounds_toArray, List.set_cons_zero, List.set_cons_succ, i64_w, i32_w]
    rfl
  refine take_ (i := 8) (N := some 29) (v := ?_) (a' := ?_) #[true, true, true, true, true, true, false, true, true, true, false, true, false, false, false, false, false, false] rfl rfl (by kernel_rfl) (fun _ _ _ h => h) (Or.inl ⟨by rfl, ?_⟩) hHeld ?_ ?_
  rotate_left
  · rintro w' s1
    obtain ⟨z0, z1, z2⟩ := (B3.after s1).cells3
    obtain ⟨z3, z4, z5⟩ := (B4.after s1).cells3
    go_simp
    with_reducible rfl
  rotate_left
  · simp only [Act.put, List.setIfInBounds_toArray, List.set_cons_zero, List.set_cons_succ, i64_w, i32_w]
    rfl
  refine take_ (i := 10) (N := some 31) (v := ?_) (a' := ?_) #[true, true, true, true, true, true, false, true, true, true, true, true, false, false, false, false, false, false] rfl rfl (by kernel_rfl) (fun _ _ _ h => h) (Or.inl ⟨by rfl, ?_⟩) hHeld ?_ ?_
  rotate_left
  · rintro w' s1
    obtain ⟨z0, z1, z2⟩ := (B3.after s1).cells3
    obtain ⟨z3, z4, z5⟩ := (B4.after s1).cells3
    go_simp
    with_reducible rfl
  rotate_left
  · simp only [Act.put, List.setIfInBounds_toArray, List.set_cons_zero, List.set_cons_succ, i64_w, i32_w]
    rfl
  refine take_ (i := 12) (N := some 33) (v := ?_) (a' := ?_) #[true, true, true, true, true, true, false, true, true, true, true, true, true, false, false, false, false, false] rfl rfl (by kernel_rfl) (fun _ _ _ h => h) (Or.inl ⟨by rfl, ?_⟩) hHeld ?_ ?_
  rotate_left
  · rintro w' s1
    obtain ⟨z0, z1, z2⟩ := (B3.after s1).cells3
    obtain ⟨z3, z4, z5⟩ := (B4.after s1).cells3
    go_simp
    with_reducible rfl
  rotate_left
  · simp only [Act.put, List.setIfInBounds_toArray, List.set_cons_zero, List.set_cons_succ, i64_w, i32_w]
    rfl
  refine join_ (σ := Nat × Nat × Int × Int × Int × Int × Int × Int × Int × Int) 2 #[true, true, true, true, true, true, true, true, true, true, true, true, true, true, true, true, false, false] (fun s => [(27, set4 s.2.2.1 s.2.2.2.1 s.2.2.2.2.1 s.2.2.2.2.2.1), (34, set4 s.2.2.2.2.2.2.1 s.2.2.2.2.2.2.2.1 s.2.2.2.2.2.2.2.2.1 s.2.2.2.2.2.2.2.2.2), (8, .pointer (some ⟨s.1, 0, none⟩)), (9, .pointer (some ⟨s.2.1, 0, none⟩))]) (fun s w' => Below w1.heap.size w1 w' ∧ (Wf4 s.2.2.1 s.2.2.2.1 s.2.2.2.2.1 s.2.2.2.2.2.1 ∧ ∀ b, 0 ≤ b → b < 256 → inSet [s.2.2.1, s.2.2.2.1, s.2.2.2.2.1, s.2.2.2.2.2.1] b = mk3 f1 t1 xs b) ∧ (Wf4 s.2.2.2.2.2.2.1 s.2.2.2.2.2.2.2.1 s.2.2.2.2.2.2.2.2.1 s.2.2.2.2.2.2.2.2.2 ∧ ∀ b, 0 ≤ b → b < 256 → inSet [s.2.2.2.2.2.2.1, s.2.2.2.2.2.2.2.1, s.2.2.2.2.2.2.2.2.1, s.2.2.2.2.2.2.2.2.2] b = mk3 f2 t2 ys b) ∧ Blk w' s.1 24 (arr4 0 0 0 0) ∧ Blk w' s.2.1 24 (arr4 0 0 0 0) ∧ w1.heap.size ≤ s.1 ∧ w1.heap.size ≤ s.2.1 ∧ s.1 ≠ s.2.1) ?_ ?_
  rotate_left
  · intro hJ
    refine three_ (i := 6) (j := 14) (k := 15) (Ni := some 27) (Nj := some 8) (Nk := some 9) #[true, true, true, true, true, true, true, true, true, true, true, true, true, false, false, false, false, false] #[true, true, true, true, true, true, false, true, true, true, true, true, true, false, true, false, false, false] #[true, true, true, true, true, true, false, true, true, true, true, true, true, false, false, true, false, false] rfl rfl rfl rfl rfl rfl (by kernel_rfl) (by decide) (by decide) (by decide) (fun K hK => ?_) (fun K hK => ?_) (fun K hK => ?_)
    · skip
      refine goes_ Try.func29 (by kernel_rfl) rfl #[.int .u8 f1, .int .u8 t1, .slice A1 xs.length c1] (by rfl) rfl rfl (by first | rfl | (simp only [List.map_toArray, List.map_cons, List.map_nil]; done) | (simp only [List.map_toArray, List.map_cons, List.map_nil]; rfl)) ?_
      refine (make_rd f1 t1 A1 c1 xs _ hf1.1 hf1.2 ht1.1 ht1.2 Hrx.out (HR1.out.below hHeld)).mono ?_
      rintro _ wq ⟨p0, p1, p2, p3, hp, rfl, hbc⟩
      refine ⟨_, rfl, ?_⟩
      have Hp := Lib.hid hp
      clear hp
      refine hK.out _ _ (hst _ _ hHeld hbc) (fun hHeld => ?_)
      clear hK K
      refine norm_ (a' := ?_) ?_ ?_
      rotate_left
      · show Act.put _ (some 27) _ = _
        simp only [Act.put, List.setIfInBounds_toArray, List.set_cons_zero, List.set_cons_succ, i64_w, i32_w]
        rfl
      refine three_ (i := 13) (j := 14) (k := 15) (Ni := some 34) (Nj := some 8) (Nk := some 9) #[true, true, true, true, true, true, true, true, true, true, true, true, true, true, false, false, false, false] #[true, true, true, true, true, true, true, true, true, true, true, true, true, false, true, false, false, false] #[true, true, true, true, true, true, true, true, true, true, true, true, true, false, false, true, false, false] rfl rfl rfl rfl rfl rfl (by kernel_rfl) (by decide) (by decide) (by decide) (fun K hK => ?_) (fun K hK => ?_) (fun K hK => ?_)
      · skip
        refine goes_ Try.func29 (by kernel_rfl) rfl #[.int .u8 f2, .int .u8 t2, .slice A2 ys.length c2] (by rfl) rfl rfl (by first | rfl | (simp only [List.map_toArray, List.map_cons, List.map_nil]; done) | (simp only [List.map_toArray, List.map_cons, List.map_nil]; rfl)) ?_
        refine (make_rd f2 t2 A2 c2 ys _ hf2.1 hf2.2 ht2.1 ht2.2 Hry.out (HR2.out.below hHeld)).mono ?_
        rintro _ wq ⟨q0, q1, q2, q3, hq, rfl, hbc⟩
        refine ⟨_, rfl, ?_⟩
        have Hq := Lib.hid hq
        clear hq
        refine hK.out _ _ (hst _ _ hHeld hbc) (fun hHeld => ?_)
        clear hK K
        refine norm_ (a' := ?_) ?_ ?_
        rotate_left
        · show Act.put _ (some 34) _ = _
          simp only [Act.put, List.setIfInBounds_toArray, List.set_cons_zero, List.set_cons_succ, i64_w, i32_w]
          rfl
        refine two_ (i := 14) (j := 15) (Ni := some 8) (Nj := some 9) #[true, true, true, true, true, true, true, true, true, true, true, true, true, true, true, false, false, false] #[true, true, true, true, true, true, true, true, true, true, true, true, true, true, false, true, false, false] rfl rfl rfl rfl (by kernel_rfl) (by decide) (by decide) (fun K hK => ?_) (fun K hK => ?_)
        · skip
          refine alloc_ (by rfl) rfl (by go_simp; rfl) (fun g14 w14 e14 b14 l14 => ?_)
          have m14 := hsz _ hHeld
          rw [e14] at m14
          refine hK.out _ _ (hst _ _ hHeld l14) (fun hHeld => ?_)
          clear hK K
          refine norm_ (a' := ?_) ?_ ?_
          rotate_left
          · show Act.put _ (some 8) _ = _
            simp only [Act.put, List.setIfInBounds_toArray, List.set_cons_zero, List.set_cons_succ, i64_w, i32_w]
            rfl
          refine one_ (i := 15) (N := some 9) #[true, true, true, true, true, true, true, true, true, true, true, true, true, true, true, true, false, false] rfl rfl (by kernel_rfl) (by decide) (fun K hK => ?_)
          refine alloc_ (by rfl) rfl (by go_simp; rfl) (fun g15 w15 e15 b15 l15 => ?_)
          have m15 := hsz _ hHeld
          rw [e15] at m15
          have n14_15 : g14 ≠ g15 := by have := b14.lt; omega
          replace b14 := b14.after l15
          refine hK.out _ _ (hst _ _ hHeld l15) (fun hHeld => ?_)
          clear hK K
          refine norm_ (a' := ?_) ?_ ?_
          rotate_left
          · show Act.put _ (some 9) _ = _
            simp only [Act.put, List.setIfInBounds_toArray, List.set_cons_zero, List.set_cons_succ, i64_w, i32_w]
            rfl
          exact norm_ (by simp only [putAll, Act.put, List.setIfInBounds_toArray, List.set_cons_zero, List.set_cons_succ]) (hJ (g14, g15, p0, p1, p2, p3, q0, q1, q2, q3) _ ⟨hHeld, Hp.out, Hq.out, b14, b15, m14, m15, (show g14 ≠ g15 from by omega)⟩)
        · skip
          refine alloc_ (by rfl) rfl (by go_simp; rfl) (fun g15 w15 e15 b15 l15 => ?_)
          have m15 := hsz _ hHeld
          rw [e15] at m15
          refine hK.out _ _ (hst _ _ hHeld l15) (fun hHeld => ?_)
          clear hK K
          refine norm_ (a' := ?_) ?_ ?_
          rotate_left
          · show Act.put _ (some 9) _ = _
            simp only [Act.put, List.setIfInBounds_toArray, List.set_cons_zero, List.set_cons_succ, i64_w, i32_w]
            rfl
          refine one_ (i := 14) (N := some 8) #[true, true, true, true, true, true, true, true, true, true, true, true, true, true, true, true, false, false] rfl rfl (by kernel_rfl) (by decide) (fun K hK => ?_)
          refine alloc_ (by rfl) rfl (by go_simp; rfl) (fun g14 w14 e14 b14 l14 => ?_)
          have m14 := hsz _ hHeld
          rw [e14] at m14
          have n15_14 : g15 ≠ g14 := by have := b15.lt; omega
          replace b15 := b15.after l14
          refine hK.out _ _ (hst _ _ hHeld l14) (fun hHeld => ?_)
          clear hK K
          refine norm_ (a' := ?_) ?_ ?_
          rotate_left
          · show Act.put _ (some 8) _ = _
            simp only [Act.put, List.setIfInBounds_toArray, List.set_cons_zero, List.set_cons_succ, i64_w, i32_w]
            rfl
          exact norm_ (by simp only [putAll, Act.put, List.setIfInBounds_toArray, List.set_cons_zero, List.set_cons_succ]) (hJ (g14, g15, p0, p1, p2, p3, q0, q1, q2, q3) _ ⟨hHeld, Hp.out, Hq.out, b14, b15, m14, m15, (show g14 ≠ g15 from by omega)⟩)
      · skip
        refine alloc_ (by rfl) rfl (by go_simp; rfl) (fun g14 w14 e14 b14 l14 => ?_)
        have m14 := hsz _ hHeld
        rw [e14] at m14
        refine hK.out _ _ (hst _ _ hHeld l14) (fun hHeld => ?_)
        clear hK K
        refine norm_ (a' := ?_) ?_ ?_
        rotate_left
        · show Act.put _ (some 8) _ = _
          simp only [Act.put, List.setIfInBounds_toArray, List.set_cons_zero, List.set_cons_succ, i64_w, i32_w]
          rfl
        refine two_ (i := 13) (j := 15) (Ni := some 34) (Nj := some 9) #[true, true, true, true, true, true, true, true, true, true, true, true, true, true, true, false, false, false] #[true, true, true, true, true, true, true, true, true, true, true, true, true, false, true, true, false, false] rfl rfl rfl rfl (by kernel_rfl) (by decide) (by decide) (fun K hK => ?_) (fun K hK => ?_)
        · skip
          refine goes_ Try.func29 (by kernel_rfl) rfl #[.int .u8 f2, .int .u8 t2, .slice A2 ys.length c2] (by rfl) rfl rfl (by first | rfl | (simp only [List.map_toArray, List.map_cons, List.map_nil]; done) | (simp only [List.map_toArray, List.map_cons, List.map_nil]; rfl)) ?_
          refine (make_rd f2 t2 A2 c2 ys _ hf2.1 hf2.2 ht2.1 ht2.2 Hry.out (HR2.out.below hHeld)).mono ?_
          rintro _ wq ⟨q0, q1, q2, q3, hq, rfl, hbc⟩
          refine ⟨_, rfl, ?_⟩
          replace b14 := b14.after hbc
          have Hq := Lib.hid hq
          clear hq
          refine hK.out _ _ (hst _ _ hHeld hbc) (fun hHeld => ?_)
          clear hK K
          refine norm_ (a' := ?_) ?_ ?_
          rotate_left
          · show Act.put _ (some 34) _ = _
            simp only [Act.put, List.setIfInBounds_toArray, List.set_cons_zero, List.set_cons_succ, i64_w, i32_w]
            rfl
          refine one_ (i := 15) (N := some 9) #[true, true, true, true, true, true, true, true, true, true, true, true, true, true, true, true, false, false] rfl rfl (by kernel_rfl) (by decide) (fun K hK => ?_)
          refine alloc_ (by rfl) rfl (by go_simp; rfl) (fun g15 w15 e15 b15 l15 => ?_)
          have m15 := hsz _ hHeld
          rw [e15] at m15
          have n14_15 : g14 ≠ g15 := by have := b14.lt; omega
          replace b14 := b14.after l15
          refine hK.out _ _ (hst _ _ hHeld l15) (fun hHeld => ?_)
          clear hK K
          refine norm_ (a' := ?_) ?_ ?_
          rotate_left
          · show Act.put _ (some 9) _ = _
            simp only [Act.put, List.setIfInBounds_toArray, List.set_cons_zero, List.set_cons_succ, i64_w, i32_w]
            rfl
          exact norm_ (by simp only [putAll, Act.put, List.setIfInBounds_toArray, List.set_cons_zero, List.set_cons_succ]) (hJ (g14, g15, p0, p1, p2, p3, q0, q1, q2, q3) _ ⟨hHeld, Hp.out, Hq.out, b14, b15, m14, m15, (show g14 ≠ g15 from by omega)⟩)
        · skip
          refine alloc_ (by rfl) rfl (by go_simp; rfl) (fun g15 w15 e15 b15 l15 => ?_)
          have m15 := hsz _ hHeld
          rw [e15] at m15
          have n14_15 : g14 ≠ g15 := by have := b14.lt; omega
          replace b14 := b14.after l15
          refine hK.out _ _ (hst _ _ hHeld l15) (fun hHeld => ?_)
          clear hK K
          refine norm_ (a' := ?_) ?_ ?_
          rotate_left
          · show Act.put _ (some 9) _ = _
            simp only [Act.put, List.setIfInBounds_toArray, List.set_cons_zero, List.set_cons_succ, i64_w, i32_w]
            rfl
          refine one_ (i := 13) (N := some 34) #[true, true, true, true, true, true, true, true, true, true, true, true, true, true, true, true, false, false] rfl rfl (by kernel_rfl) (by decide) (fun K hK => ?_)
          refine goes_ Try.func29 (by kernel_rfl) rfl #[.int .u8 f2, .int .u8 t2, .slice A2 ys.length c2] (by rfl) rfl rfl (by first | rfl | (simp only [List.map_toArray, List.map_cons, List.map_nil]; done) | (simp only [List.map_toArray, List.map_cons, List.map_nil]; rfl)) ?_
          refine (make_rd f2 t2 A2 c2 ys _ hf2.1 hf2.2 ht2.1 ht2.2 Hry.out (HR2.out.below hHeld)).mono ?_
          rintro _ wq ⟨q0, q1, q2, q3, hq, rfl, hbc⟩
          refine ⟨_, rfl, ?_⟩
          replace b14 := b14.after hbc
          replace b15 := b15.after hbc
          have Hq := Lib.hid hq
          clear hq
          refine hK.out _ _ (hst _ _ hHeld hbc) (fun hHeld => ?_)
          clear hK K
          refine norm_ (a' := ?_) ?_ ?_
          rotate_left
          · show Act.put _ (some 34) _ = _
            simp only [Act.put, List.setIfInBounds_toArray, List.set_cons_zero, List.set_cons_succ, i64_w, i32_w]
            rfl
          exact norm_ (by simp only [putAll, Act.put, List.setIfInBounds_toArray, List.set_cons_zero, List.set_cons_succ]) (hJ (g14, g15, p0, p1, p2, p3, q0, q1, q2, q3) _ ⟨hHeld, Hp.out, Hq.out, b14, b15, m14, m15, (show g14 ≠ g15 from by omega)⟩)
      · skip
        refine alloc_ (by rfl) rfl (by go_simp; rfl) (fun g15 w15 e15 b15 l15 => ?_)
        have m15 := hsz _ hHeld
        rw [e15] at m15
        refine hK.out _ _ (hst _ _ hHeld l15) (fun hHeld => ?_)
        clear hK K
        refine norm_ (a' := ?_) ?_ ?_
        rotate_left
        · show Act.put _ (some 9) _ = _
          simp only [Act.put, List.setIfInBounds_toArray, List.set_cons_zero, List.set_cons_succ, i64_w, i32_w]
          rfl
        refine two_ (i := 13) (j := 14) (Ni := some 34) (Nj := some 8) #[true, true, true, true, true, true, true, true, true, true, true, true, true, true, false, true, false, false] #[true, true, true, true, true, true, true, true, true, true, true, true, true, false, true, true, false, false] rfl rfl rfl rfl (by kernel_rfl) (by decide) (by decide) (fun K hK => ?_) (fun K hK => ?_)
        · skip
          refine goes_ Try.func29 (by kernel_rfl) rfl #[.int .u8 f2, .int .u8 t2, .slice A2 ys.length c2] (by rfl) rfl rfl (by first | rfl | (simp only [List.map_toArray, List.map_cons, List.map_nil]; done) | (simp only [List.map_toArray, List.map_cons, List.map_nil]; rfl)) ?_
          refine (make_rd f2 t2 A2 c2 ys _ hf2.1 hf2.2 ht2.1 ht2.2 Hry.out (HR2.out.below hHeld)).mono ?_
          rintro _ wq ⟨q0, q1, q2, q3, hq, rfl, hbc⟩
          refine ⟨_, rfl, ?_⟩
          replace b15 := b15.after hbc
          have Hq := Lib.hid hq
          clear hq
          refine hK.out _ _ (hst _ _ hHeld hbc) (fun hHeld => ?_)
          clear hK K
          refine norm_ (a' := ?_) ?_ ?_
          rotate_left
          · show Act.put _ (some 34) _ = _
            simp only [Act.put, List.setIfInBounds_toArray, List.set_cons_zero, List.set_cons_succ, i64_w, i32_w]
            rfl
          refine one_ (i := 14) (N := some 8) #[true, true, true, true, true, true, true, true, true, true, true, true, true, true, true, true, false, false] rfl rfl (by kernel_rfl) (by decide) (fun K hK => ?_)
          refine alloc_ (by rfl) rfl (by go_simp; rfl) (fun g14 w14 e14 b14 l14 => ?_)
          have m14 := hsz _ hHeld
          rw [e14] at m14
          have n15_14 : g15 ≠ g14 := by have := b15.lt; omega
          replace b15 := b15.after l14
          refine hK.out _ _ (hst _ _ hHeld l14) (fun hHeld => ?_)
          clear hK K
          refine norm_ (a' := ?_) ?_ ?_
          rotate_left
          · show Act.put _ (some 8) _ = _
            simp only [Act.put, List.setIfInBounds_toArray, List.set_cons_zero, List.set_cons_succ, i64_w, i32_w]
            rfl
          exact norm_ (by simp only [putAll, Act.put, List.setIfInBounds_toArray, List.set_cons_zero, List.set_cons_succ]) (hJ (g14, g15, p0, p1, p2, p3, q0, q1, q2, q3) _ ⟨hHeld, Hp.out, Hq.out, b14, b15, m14, m15, (show g14 ≠ g15 from by omega)⟩)
        · skip
          refine alloc_ (by rfl) rfl (by go_simp; rfl) (fun g14 w14 e14 b14 l14 => ?_)
          have m14 := hsz _ hHeld
          rw [e14] at m14
          have n15_14 : g15 ≠ g14 := by have := b15.lt; omega
          replace b15 := b15.after l14
          refine hK.out _ _ (hst _ _ hHeld l14) (fun hHeld => ?_)
          clear hK K
          refine norm_ (a' := ?_) ?_ ?_
          rotate_left
          · show Act.put _ (some 8) _ = _
            simp only [Act.put, List.setIfInBounds_toArray, List.set_cons_zero, List.set_cons_succ, i64_w, i32_w]
            rfl
          refine one_ (i := 13) (N := some 34) #[true, true, true, true, true, true, true, true, true, true, true, true, true, true, true, true, false, false] rfl rfl (by kernel_rfl) (by decide) (fun K hK => ?_)
          refine goes_ Try.func29 (by kernel_rfl) rfl #[.int .u8 f2, .int .u8 t2, .slice A2 ys.length c2] (by rfl) rfl rfl (by first | rfl | (simp only [List.map_toArray, List.map_cons, List.map_nil]; done) | (simp only [List.map_toArray, List.map_cons, List.map_nil]; rfl)) ?_
          refine (make_rd f2 t2 A2 c2 ys _ hf2.1 hf2.2 ht2.1 ht2.2 Hry.out (HR2.out.below hHeld)).mono ?_
          rintro _ wq ⟨q0, q1, q2, q3, hq, rfl, hbc⟩
          refine ⟨_, rfl, ?_⟩
          replace b15 := b15.after hbc
          replace b14 := b14.after hbc
          have Hq := Lib.hid hq
          clear hq
          refine hK.out _ _ (hst _ _ hHeld hbc) (fun hHeld => ?_)
          clear hK K
          refine norm_ (a' := ?_) ?_ ?_
          rotate_left
          · show Act.put _ (some 34) _ = _
            simp only [Act.put, List.setIfInBounds_toArray, List.set_cons_zero, List.set_cons_succ, i64_w, i32_w]
            rfl
          exact norm_ (by simp only [putAll, Act.put, List.setIfInBounds_toArray, List.set_cons_zero, List.set_cons_succ]) (hJ (g14, g15, p0, p1, p2, p3, q0, q1, q2, q3) _ ⟨hHeld, Hp.out, Hq.out, b14, b15, m14, m15, (show g14 ≠ g15 from by omega)⟩)
    · skip
      refine alloc_ (by rfl) rfl (by go_simp; rfl) (fun g14 w14 e14 b14 l14 => ?_)
      have m14 := hsz _ hHeld
      rw [e14] at m14
      refine hK.out _ _ (hst _ _ hHeld l14) (fun hHeld => ?_)
      clear hK K
      refine norm_ (a' := ?_) ?_ ?_
      rotate_left
      · show Act.put _ (some 8) _ = _
        simp only [Act.put, List.setIfInBounds_toArray, List.set_cons_zero, List.set_cons_succ, i64_w, i32_w]
        rfl
      refine two_ (i := 6) (j := 15) (Ni := some 27) (Nj := some 9) #[true, true, true, true, true, true, true, true, true, true, true, true, true, false, true, false, false, false] #[true, true, true, true, true, true, false, true, true, true, true, true, true, false, true, true, false, false] rfl rfl rfl rfl (by kernel_rfl) (by decide) (by decide) (fun K hK => ?_) (fun K hK => ?_)
      · skip
        refine goes_ Try.func29 (by kernel_rfl) rfl #[.int .u8 f1, .int .u8 t1, .slice A1 xs.length c1] (by rfl) rfl rfl (by first | rfl | (simp only [List.map_toArray, List.map_cons, List.map_nil]; done) | (simp only [List.map_toArray, List.map_cons, List.map_nil]; rfl)) ?_
        refine (make_rd f1 t1 A1 c1 xs _ hf1.1 hf1.2 ht1.1 ht1.2 Hrx.out (HR1.out.below hHeld)).mono ?_
        rintro _ wq ⟨p0, p1, p2, p3, hp, rfl, hbc⟩
        refine ⟨_, rfl, ?_⟩
        replace b14 := b14.after hbc
        have Hp := Lib.hid hp
        clear hp
        refine hK.out _ _ (hst _ _ hHeld hbc) (fun hHeld => ?_)
        clear hK K
        refine norm_ (a' := ?_) ?_ ?_
        rotate_left
        · show Act.put _ (some 27) _ = _
          simp only [Act.put, List.setIfInBounds_toArray, List.set_cons_zero, List.set_cons_succ, i64_w, i32_w]
          rfl
        refine two_ (i := 13) (j := 15) (Ni := some 34) (Nj := some 9) #[true, true, true, true, true, true, true, true, true, true, true, true, true, true, true, false, false, false] #[true, true, true, true, true, true, true, true, true, true, true, true, true, false, true, true, false, false] rfl rfl rfl rfl (by kernel_rfl) (by decide) (by decide) (fun K hK => ?_) (fun K hK => ?_)
        · skip
          refine goes_ Try.func29 (by kernel_rfl) rfl #[.int .u8 f2, .int .u8 t2, .slice A2 ys.length c2] (by rfl) rfl rfl (by first | rfl | (simp only [List.map_toArray, List.map_cons, List.map_nil]; done) | (simp only [List.map_toArray, List.map_cons, List.map_nil]; rfl)) ?_
          refine (make_rd f2 t2 A2 c2 ys _ hf2.1 hf2.2 ht2.1 ht2.2 Hry.out (HR2.out.below hHeld)).mono ?_
          rintro _ wq ⟨q0, q1, q2, q3, hq, rfl, hbc⟩
          refine ⟨_, rfl, ?_⟩
          replace b14 := b14.after hbc
          have Hq := Lib.hid hq
          clear hq
          refine hK.out _ _ (hst _ _ hHeld hbc) (fun hHeld => ?_)
          clear hK K
          refine norm_ (a' := ?_) ?_ ?_
          rotate_left
          · show Act.put _ (some 34) _ = _
            simp only [Act.put, List.setIfInBounds_toArray, List.set_cons_zero, List.set_cons_succ, i64_w, i32_w]
            rfl
          refine one_ (i := 15) (N := some 9) #[true, true, true, true, true, true, true, true, true, true, true, true, true, true, true, true, false, false] rfl rfl (by kernel_rfl) (by decide) (fun K hK => ?_)
          refine alloc_ (by rfl) rfl (by go_simp; rfl) (fun g15 w15 e15 b15 l15 => ?_)
          have m15 := hsz _ hHeld
          rw [e15] at m15
          have n14_15 : g14 ≠ g15 := by have := b14.lt; omega
          replace b14 := b14.after l15
          refine hK.out _ _ (hst _ _ hHeld l15) (fun hHeld => ?_)
          clear hK K
          refine norm_ (a' := ?_) ?_ ?_
          rotate_left
          · show Act.put _ (some 9) _ = _
            simp only [Act.put, List.setIfInBounds_toArray, List.set_cons_zero, List.set_cons_succ, i64_w, i32_w]
            rfl
          exact norm_ (by simp only [putAll, Act.put, List.setIfInBounds_toArray, List.set_cons_zero, List.set_cons_succ]) (hJ (g14, g15, p0, p1, p2, p3, q0, q1, q2, q3) _ ⟨hHeld, Hp.out, Hq.out, b14, b15, m14, m15, (show g14 ≠ g15 from by omega)⟩)
        · skip
          refine alloc_ (by rfl) rfl (by go_simp; rfl) (fun g15 w15 e15 b15 l15 => ?_)
          have m15 := hsz _ hHeld
          rw [e15] at m15
          have n14_15 : g14 ≠ g15 := by have := b14.lt; omega
          replace b14 := b14.after l15
          refine hK.out _ _ (hst _ _ hHeld l15) (fun hHeld => ?_)
          clear hK K
          refine norm_ (a' := ?_) ?_ ?_
          rotate_left
          · show Act.put _ (some 9) _ = _
            simp only [Act.put, List.setIfInBounds_toArray, List.set_cons_zero, List.set_cons_succ, i64_w, i32_w]
            rfl
          refine one_ (i := 13) (N := some 34) #[true, true, true, true, true, true, true, true, true, true, true, true, true, true, true, true, false, false] rfl rfl (by kernel_rfl) (by decide) (fun K hK => ?_)
          refine goes_ Try.func29 (by kernel_rfl) rfl #[.int .u8 f2, .int .u8 t2, .slice A2 ys.length c2] (by rfl) rfl rfl (by first | rfl | (simp only [List.map_toArray, List.map_cons, List.map_nil]; done) | (simp only [List.map_toArray, List.map_cons, List.map_nil]; rfl)) ?_
          refine (make_rd f2 t2 A2 c2 ys _ hf2.1 hf2.2 ht2.1 ht2.2 Hry.out (HR2.out.below hHeld)).mono ?_
          rintro _ wq ⟨q0, q1, q2, q3, hq, rfl, hbc⟩
          refine ⟨_, rfl, ?_⟩
          replace b14 := b14.after hbc
          replace b15 := b15.after hbc
          have Hq := Lib.hid hq
          clear hq
          refine hK.out _ _ (hst _ _ hHeld hbc) (fun hHeld => ?_)
          clear hK K
          refine norm_ (a' := ?_) ?_ ?_
          rotate_left
          · show Act.put _ (some 34) _ = _
            simp only [Act.put, List.setIfInBounds_toArray, List.set_cons_zero, List.set_cons_succ, i64_w, i32_w]
            rfl
          exact norm_ (by simp only [putAll, Act.put, List.setIfInBounds_toArray, List.set_cons_zero, List.set_cons_succ]) (hJ (g14, g15, p0, p1, p2, p3, q0, q1, q2, q3) _ ⟨hHeld, Hp.out, Hq.out, b14, b15, m14, m15, (show g14 ≠ g15 from by omega)⟩)
      · skip
        refine alloc_ (by rfl) rfl (by go_simp; rfl) (fun g15 w15 e15 b15 l15 => ?_)
        have m15 := hsz _ hHeld
        rw [e15] at m15
        have n14_15 : g14 ≠ g15 := by have := b14.lt; omega
        replace b14 := b14.after l15
        refine hK.out _ _ (hst _ _ hHeld l15) (fun hHeld => ?_)
        clear hK K
        refine norm_ (a' := ?_) ?_ ?_
        rotate_left
        · show Act.put _ (some 9) _ = _
          simp only [Act.put, List.setIfInBounds_toArray, List.set_cons_zero, List.set_cons_succ, i64_w, i32_w]
          rfl
        refine one_ (i := 6) (N := some 27) #[true, true, true, true, true, true, true, true, true, true, true, true, true, false, true, true, false, false] rfl rfl (by kernel_rfl) (by decide) (fun K hK => ?_)
        refine goes_ Try.func29 (by kernel_rfl) rfl #[.int .u8 f1, .int .u8 t1, .slice A1 xs.length c1] (by rfl) rfl rfl (by first | rfl | (simp only [List.map_toArray, List.map_cons, List.map_nil]; done) | (simp only [List.map_toArray, List.map_cons, List.map_nil]; rfl)) ?_
        refine (make_rd f1 t1 A1 c1 xs _ hf1.1 hf1.2 ht1.1 ht1.2 Hrx.out (HR1.out.below hHeld)).mono ?_
        rintro _ wq ⟨p0, p1, p2, p3, hp, rfl, hbc⟩
        refine ⟨_, rfl, ?_⟩
        replace b14 := b14.after hbc
        replace b15 := b15.after hbc
        have Hp := Lib.hid hp
        clear hp
        refine hK.out _ _ (hst _ _ hHeld hbc) (fun hHeld => ?_)
        clear hK K
        refine norm_ (a' := ?_) ?_ ?_
        rotate_left
        · show Act.put _ (some 27) _ = _
          simp only [Act.put, List.setIfInBounds_toArray, List.set_cons_zero, List.set_cons_succ, i64_w, i32_w]
          rfl
        refine one_ (i := 13) (N := some 34) #[true, true, true, true, true, true, true, true, true, true, true, true, true, true, true, true, false, false] rfl rfl (by kernel_rfl) (by decide) (fun K hK => ?_)
        refine goes_ Try.func29 (by kernel_rfl) rfl #[.int .u8 f2, .int .u8 t2, .slice A2 ys.length c2] (by rfl) rfl rfl (by first | rfl | (simp only [List.map_toArray, List.map_cons, List.map_nil]; done) | (simp only [List.map_toArray, List.map_cons, List.map_nil]; rfl)) ?_
        refine (make_rd f2 t2 A2 c2 ys _ hf2.1 hf2.2 ht2.1 ht2.2 Hry.out (HR2.out.below hHeld)).mono ?_
        rintro _ wq ⟨q0, q1, q2, q3, hq, rfl, hbc⟩
        refine ⟨_, rfl, ?_⟩
        replace b14 := b14.after hbc
        replace b15 := b15.after hbc
        have Hq := Lib.hid hq
        clear hq
        refine hK.out _ _ (hst _ _ hHeld hbc) (fun hHeld => ?_)
        clear hK K
        refine norm_ (a' := ?_) ?_ ?_
        rotate_left
        · show Act.put _ (some 34) _ = _
          simp only [Act.put, List.setIfInBounds_toArray, List.set_cons_zero, List.set_cons_succ, i64_w, i32_w]
          rfl
        exact norm_ (by simp only [putAll, Act.put, List.setIfInBounds_toArray, List.set_cons_zero, List.set_cons_succ]) (hJ (g14, g15, p0, p1, p2, p3, q0, q1, q2, q3) _ ⟨hHeld, Hp.out, Hq.out, b14, b15, m14, m15, (show g14 ≠ g15 from by omega)⟩)
    · skip
      refine alloc_ (by rfl) rfl (by go_simp; rfl) (fun g15 w15 e15 b15 l15 => ?_)
      have m15 := hsz _ hHeld
      rw [e15] at m15
      refine hK.out _ _ (hst _ _ hHeld l15) (fun hHeld => ?_)
      clear hK K
      refine norm_ (a' := ?_) ?_ ?_
      rotate_left
      · show Act.put _ (some 9) _ = _
        simp only [Act.put, List.setIfInBounds_toArray, List.set_cons_zero, List.set_cons_succ, i64_w, i32_w]
        rfl
      refine two_ (i := 6) (j := 14) (Ni := some 27) (Nj := some 8) #[true, true, true, true, true, true, true, true, true, true, true, true, true, false, false, true, false, false] #[true, true, true, true, true, true, false, true, true, true, true, true, true, false, true, true, false, false] rfl rfl rfl rfl (by kernel_rfl) (by decide) (by decide) (fun K hK => ?_) (fun K hK => ?_)
      · skip
        refine goes_ Try.func29 (by kernel_rfl) rfl #[.int .u8 f1, .int .u8 t1, .slice A1 xs.length c1] (by rfl) rfl rfl (by first | rfl | (simp only [List.map_toArray, List.map_cons, List.map_nil]; done) | (simp only [List.map_toArray, List.map_cons, List.map_nil]; rfl)) ?_
        refine (make_rd f1 t1 A1 c1 xs _ hf1.1 hf1.2 ht1.1 ht1.2 Hrx.out (HR1.out.below hHeld)).mono ?_
        rintro _ wq ⟨p0, p1, p2, p3, hp, rfl, hbc⟩
        refine ⟨_, rfl, ?_⟩
        replace b15 := b15.after hbc
        have Hp := Lib.hid hp
        clear hp
        refine hK.out _ _ (hst _ _ hHeld hbc) (fun hHeld => ?_)
        clear hK K
        refine norm_ (a' := ?_) ?_ ?_
        rotate_left
        · show Act.put _ (some 27) _ = _
          simp only [Act.put, List.setIfInBounds_toArray, List.set_cons_zero, List.set_cons_succ, i64_w, i32_w]
          rfl
        refine two_ (i := 13) (j := 14) (Ni := some 34) (Nj := some 8) #[true, true, true, true, true, true, true, true, true, true, true, true, true, true, false, true, false, false] #[true, true, true, true, true, true, true, true, true, true, true, true, true, false, true, true, false, false] rfl rfl rfl rfl (by kernel_rfl) (by decide) (by decide) (fun K hK => ?_) (fun K hK => ?_)
        · skip
          refine goes_ Try.func29 (by kernel_rfl) rfl #[.int .u8 f2, .int .u8 t2, .slice A2 ys.length c2] (by rfl) rfl rfl (by first | rfl | (simp only [List.map_toArray, List.map_cons, List.map_nil]; done) | (simp only [List.map_toArray, List.map_cons, List.map_nil]; rfl)) ?_
          refine (make_rd f2 t2 A2 c2 ys _ hf2.1 hf2.2 ht2.1 ht2.2 Hry.out (HR2.out.below hHeld)).mono ?_
          rintro _ wq ⟨q0, q1, q2, q3, hq, rfl, hbc⟩
          refine ⟨_, rfl, ?_⟩
          replace b15 := b15.after hbc
          have Hq := Lib.hid hq
          clear hq
          refine hK.out _ _ (hst _ _ hHeld hbc) (fun hHeld => ?_)
          clear hK K
          refine norm_ (a' := ?_) ?_ ?_
          rotate_left
          · show Act.put _ (some 34) _ = _
            simp only [Act.put, List.setIfInBounds_toArray, List.set_cons_zero, List.set_cons_succ, i64_w, i32_w]
            rfl
          refine one_ (i := 14) (N := some 8) #[true, true, true, true, true, true, true, true, true, true, true, true, true, true, true, true, false, false] rfl rfl (by kernel_rfl) (by decide) (fun K hK => ?_)
          refine alloc_ (by rfl) rfl (by go_simp; rfl) (fun g14 w14 e14 b14 l14 => ?_)
          have m14 := hsz _ hHeld
          rw [e14] at m14
          have n15_14 : g15 ≠ g14 := by have := b15.lt; omega
          replace b15 := b15.after l14
          refine hK.out _ _ (hst _ _ hHeld l14) (fun hHeld => ?_)
          clear hK K
          refine norm_ (a' := ?_) ?_ ?_
          rotate_left
          · show Act.put _ (some 8) _ = _
            simp only [Act.put, List.setIfInBounds_toArray, List.set_cons_zero, List.set_cons_succ, i64_w, i32_w]
            rfl
          exact norm_ (by simp only [putAll, Act.put, List.setIfInBounds_toArray, List.set_cons_zero, List.set_cons_succ]) (hJ (g14, g15, p0, p1, p2, p3, q0, q1, q2, q3) _ ⟨hHeld, Hp.out, Hq.out, b14, b15, m14, m15, (show g14 ≠ g15 from by omega)⟩)
        · skip
          refine alloc_ (by rfl) rfl (by go_simp; rfl) (fun g14 w14 e14 b14 l14 => ?_)
          have m14 := hsz _ hHeld
          rw [e14] at m14
          have n15_14 : g15 ≠ g14 := by have := b15.lt; omega
          replace b15 := b15.after l14
          refine hK.out _ _ (hst _ _ hHeld l14) (fun hHeld => ?_)
          clear hK K
          refine norm_ (a' := ?_) ?_ ?_
          rotate_left
          · show Act.put _ (some 8) _ = _
            simp only [Act.put, List.setIfInBounds_toArray, List.set_cons_zero, List.set_cons_succ, i64_w, i32_w]
            rfl
          refine one_ (i := 13) (N := some 34) #[true, true, true, true, true, true, true, true, true, true, true, true, true, true, true, true, false, false] rfl rfl (by kernel_rfl) (by decide) (fun K hK => ?_)
          refine goes_ Try.func29 (by kernel_rfl) rfl #[.int .u8 f2, .int .u8 t2, .slice A2 ys.length c2] (by rfl) rfl rfl (by first | rfl | (simp only [List.map_toArray, List.map_cons, List.map_nil]; done) | (simp only [List.map_toArray, List.map_cons, List.map_nil]; rfl)) ?_
          refine (make_rd f2 t2 A2 c2 ys _ hf2.1 hf2.2 ht2.1 ht2.2 Hry.out (HR2.out.below hHeld)).mono ?_
          rintro _ wq ⟨q0, q1, q2, q3, hq, rfl, hbc⟩
          refine ⟨_, rfl, ?_⟩
          replace b15 := b15.after hbc
          replace b14 := b14.after hbc
          have Hq := Lib.hid hq
          clear hq
          refine hK.out _ _ (hst _ _ hHeld hbc) (fun hHeld => ?_)
          clear hK K
          refine norm_ (a' := ?_) ?_ ?_
          rotate_left
          · show Act.put _ (some 34) _ = _
            simp only [Act.put, List.setIfInBounds_toArray, List.set_cons_zero, List.set_cons_succ, i64_w, i32_w]
            rfl
          exact norm_ (by simp only [putAll, Act.put, List.setIfInBounds_toArray, List.set_cons_zero, List.set_cons_succ]) (hJ (g14, g15, p0, p1, p2, p3, q0, q1, q2, q3) _ ⟨hHeld, Hp.out, Hq.out, b14, b15, m14, m15, (show g14 ≠ g15 from by omega)⟩)
      · skip
        refine alloc_ (by rfl) rfl (by go_simp; rfl) (fun g14 w14 e14 b14 l14 => ?_)
        have m14 := hsz _ hHeld
        rw [e14] at m14
        have n15_14 : g15 ≠ g14 := by have := b15.lt; omega
        replace b15 := b15.after l14
        refine hK.out _ _ (hst _ _ hHeld l14) (fun hHeld => ?_)
        clear hK K
        refine norm_ (a' := ?_) ?_ ?_
        rotate_left
        · show Act.put _ (some 8) _ = _
          simp only [Act.put, List.setIfInBounds_toArray, List.set_cons_zero, List.set_cons_succ, i64_w, i32_w]
          rfl
        refine one_ (i := 6) (N := some 27) #[true, true, true, true, true, true, true, true, true, true, true, true, true, false, true, true, false, false] rfl rfl (by kernel_rfl) (by decide) (fun K hK => ?_)
        refine goes_ Try.func29 (by kernel_rfl) rfl #[.int .u8 f1, .int .u8 t1, .slice A1 xs.length c1] (by rfl) rfl rfl (by first | rfl | (simp only [List.map_toArray, List.map_cons, List.map_nil]; done) | (simp only [List.map_toArray, List.map_cons, List.map_nil]; rfl)) ?_
        refine (make_rd f1 t1 A1 c1 xs _ hf1.1 hf1.2 ht1.1 ht1.2 Hrx.out (HR1.out.below hHeld)).mono ?_
        rintro _ wq ⟨p0, p1, p2, p3, hp, rfl, hbc⟩
        refine ⟨_, rfl, ?_⟩
        replace b15 := b15.after hbc
        replace b14 := b14.after hbc
        have Hp := Lib.hid hp
        clear hp
        refine hK.out _ _ (hst _ _ hHeld hbc) (fun hHeld => ?_)
        clear hK K
        refine norm_ (a' := ?_) ?_ ?_
        rotate_left
        · show Act.put _ (some 27) _ = _
          simp only [Act.put, List.setIfInBounds_toArray, List.set_cons_zero, List.set_cons_succ, i64_w, i32_w]
          rfl
        refine one_ (i := 13) (N := some 34) #[true, true, true, true, true, true, true, true, true, true, true, true, true, true, true, true, false, false] rfl rfl (by kernel_rfl) (by decide) (fun K hK => ?_)
        refine goes_ Try.func29 (by kernel_rfl) rfl #[.int .u8 f2, .int .u8 t2, .slice A2 ys.length c2] (by rfl) rfl rfl (by first | rfl | (simp only [List.map_toArray, List.map_cons, List.map_nil]; done) | (simp only [List.map_toArray, List.map_cons, List.map_nil]; rfl)) ?_
        refine (make_rd f2 t2 A2 c2 ys _ hf2.1 hf2.2 ht2.1 ht2.2 Hry.out (HR2.out.below hHeld)).mono ?_
        rintro _ wq ⟨q0, q1, q2, q3, hq, rfl, hbc⟩
        refine ⟨_, rfl, ?_⟩
        replace b15 := b15.after hbc
        replace b14 := b14.after hbc
        have Hq := Lib.hid hq
        clear hq
        refine hK.out _ _ (hst _ _ hHeld hbc) (fun hHeld => ?_)
        clear hK K
        refine norm_ (a' := ?_) ?_ ?_
        rotate_left
        · show Act.put _ (some 34) _ = _
          simp only [Act.put, List.setIfInBounds_toArray, List.set_cons_zero, List.set_cons_succ, i64_w, i32_w]
          rfl
        exact norm_ (by simp only [putAll, Act.put, List.setIfInBounds_toArray, List.set_cons_zero, List.set_cons_succ]) (hJ (g14, g15, p0, p1, p2, p3, q0, q1, q2, q3) _ ⟨hHeld, Hp.out, Hq.out, b14, b15, m14, m15, (show g14 ≠ g15 from by omega)⟩)
  rintro ⟨P8, P9, p0, p1, p2, p3, q0, q1, q2, q3⟩ wf ⟨hHeld, hp, hq, b8, b9, m8, m9, n89⟩
  dsimp only at hp hq b8 b9 m8 m9 n89
  have Hp := Lib.hid hp
  have Hq := Lib.hid hq
  clear hp hq
  refine norm_ (a' := ?_) ?_ ?_
  rotate_left
  · simp only [putAll, Act.put, List.setIfInBounds_toArray, List.set_cons_zero, List.set_cons_succ]
    rfl
  refine one_ (i := 16) (N := none) #[true, true, true, true, true, true, true, true, true, true, true, true, true, true, true, true, true, false] rfl rfl (by kernel_rfl) (by decide) (fun K hK => ?_)
  refine store_ (by rfl) rfl 24 _ _ rfl P8 (arr4 p0 p1 p2 p3) rfl rfl 24 _ b8 4 size_B rfl rfl (nums_one .u64 [p0, p1, p2, p3]) ?_
  intro w16 h16 k16
  replace b9 := b9.grown k16 (by simp; omega)
  refine hK.out _ _ (below_grown hHeld k16 m8) (fun hHeld => ?_)
  clear hK K
  refine one_ (i := 17) (N := none) #[true, true, true, true, true, true, true, true, true, true, true, true, true, true, true, true, true, true] rfl rfl (by kernel_rfl) (by decide) (fun K hK => ?_)
  refine store_ (by rfl) rfl 24 _ _ rfl P9 (arr4 q0 q1 q2 q3) rfl rfl 24 _ b9 4 size_B rfl rfl (nums_one .u64 [q0, q1, q2, q3]) ?_
  intro w17 h17 k17
  replace h16 := h16.grown k17 (by simp; omega)
  refine hK.out _ _ (below_grown hHeld k17 m9) (fun hHeld => ?_)
  clear hK K
  refine done_ (by kernel_rfl) ?_
  clear hst hsz b8 b9 k16 k17 hbel
  have hz := zero_S
  go_upto_region 3 with (fail)
  have hst : ∀ wa wb : World, (Below w1.heap.size w1 wa ∧ Blk wa P8 24 (arr4 p0 p1 p2 p3) ∧ Blk wa P9 24 (arr4 q0 q1 q2 q3)) → Below wa.heap.size wa wb → (Below w1.heap.size w1 wb ∧ Blk wb P8 24 (arr4 p0 p1 p2 p3) ∧ Blk wb P9 24 (arr4 q0 q1 q2 q3)) := fun _ _ ⟨h, h2, h3⟩ k => ⟨below_after h k, h2.after k, h3.after k⟩
  have hsz : ∀ wa : World, (Below w1.heap.size w1 wa ∧ Blk wa P8 24 (arr4 p0 p1 p2 p3) ∧ Blk wa P9 24 (arr4 q0 q1 q2 q3)) → (w1.heap.size ≤ wa.heap.size ∧ P8 < wa.heap.size ∧ P9 < wa.heap.size) := fun _ ⟨h, h2, h3⟩ => ⟨h.size, h2.lt, h3.lt⟩
  have hstg : ∀ (wa wb : World) (g : Nat), (Below w1.heap.size w1 wa ∧ Blk wa P8 24 (arr4 p0 p1 p2 p3) ∧ Blk wa P9 24 (arr4 q0 q1 q2 q3)) → wa.grownBy wb (some g) → (w1.heap.size ≤ g ∧ P8 < g ∧ P9 < g) → (Below w1.heap.size w1 wb ∧ Blk wb P8 24 (arr4 p0 p1 p2 p3) ∧ Blk wb P9 24 (arr4 q0 q1 q2 q3)) := fun _ _ g ⟨h1, h2, h3⟩ k m => ⟨below_grown h1 k m.1, h2.grown k (by simp; omega), h3.grown k (by simp; omega)⟩
  refine start_ (n := 17) (S := (fun w' => Below w1.heap.size w1 w' ∧ Blk w' P8 24 (arr4 p0 p1 p2 p3) ∧ Blk w' P9 24 (arr4 q0 q1 q2 q3))) (ds := []) #[false, false, false, false, false, false, false, false, false, false, false, false, false, false, false, false, false] (by kernel_rfl) rfl rfl ⟨hHeld.drew, h16.drew, h17.drew⟩ (fun hHeld => ?_)
  refine pure_ (i := 0) (N := some 35) (v := ?_) (a' := ?_) #[true, false, false, false, false, false, false, false, false, false, false, false, false, false, false, false, false] rfl rfl (by kernel_rfl) (fun _ _ _ h => h) (Or.inl ⟨by rfl, ?_⟩) ?_ ?_
  rotate_left
  · intro w'
    go_simp
    with_reducible rfl
  rotate_left
  · simp only [Act.put, List.setIfInBounds_toArray, List.set_cons_zero, List.set_cons_succ, i64_w, i32_w]
    rfl
  refine pure_ (i := 2) (N := some 37) (v := ?_) (a' := ?_) #[true, false, true, false, false, false, false, false, false, false, false, false, false, false, false, false, false] rfl rfl (by kernel_rfl) (fun _ _ _ h => h) (Or.inl ⟨by rfl, ?_⟩) ?_ ?_
  rotate_left
  · intro w'
    go_simp
    with_reducible rfl
  rotate_left
  · simp only [Act.put, List.setIfInBounds_toArray, List.set_cons_zero, List.set_cons_succ, i64_w, i32_w]
    rfl
  refine pure_ (i := 4) (N := some 39) (v := ?_) (a' := ?_) #[true, false, true, false, true, false, false, false, false, false, false, false, false, false, false, false, false] rfl rfl (by kernel_rfl) (fun _ _ _ h => h) (Or.inl ⟨by rfl, ?_⟩) ?_ ?_
  rotate_left
  · intro w'
    go_simp
    with_reducible rfl
  rotate_left
  · simp only [Act.put, List.setIfInBounds_toArray, List.set_cons_zero, List.set_cons_succ, i64_w, i32_w]
    rfl
  refine pure_ (i := 6) (N := some 41) (v := ?_) (a' := ?_) #[true, false, true, false, true, false, true, false, false, false, false, false, false, false, false, false, false] rfl rfl (by kernel_rfl) (fun _ _ _ h => h) (Or.inl ⟨by rfl, ?_⟩) ?_ ?_
  rotate_left
  · intro w'
    go_simp
    with_reducible rfl
  rotate_left
  · simp only [Act.put, List.setIfInBounds_toArray, List.set_cons_zero, List.set_cons_succ, i64_w, i32_w]
    rfl
  refine pure_ (i := 8) (N := some 43) (v := ?_) (a' := ?_) #[true, false, true, false, true, false, true, false, true, false, false, false, false, false, false, false, false] rfl rfl (by kernel_rfl) (fun _ _ _ h => h) (Or.inl ⟨by rfl, ?_⟩) ?_ ?_
  rotate_left
  · intro w'
    go_simp
    with_reducible rfl
  rotate_left
  · simp only [Act.put, List.setIfInBounds_toArray, List.set_cons_zero, List.set_cons_succ, i64_w, i32_w]
    rfl
  refine pure_ (i := 10) (N := some 45) (v := ?_) (a' := ?_) #[true, false, true, false, true, false, true, false, true, false, true, false, false, false, false, false, false] rfl rfl (by kernel_rfl) (fun _ _ _ h => h) (Or.inl ⟨by rfl, ?_⟩) ?_ ?_
  rotate_left
  · intro w'
    go_simp
    with_reducible rfl
  rotate_left
  · simp only [Act.put, List.setIfInBounds_toArray, List.set_cons_zero, List.set_cons_succ, i64_w, i32_w]
    rfl
  refine take_ (i := 1) (N := some 36) (v := ?_) (a' := ?_) #[true, true, true, false, true, false, true, false, true, false, true, false, false, false, false, false, false] rfl rfl (by kernel_rfl) (fun _ _ _ h => h) (Or.inl ⟨by rfl, ?_⟩) hHeld ?_ ?_
  rotate_left
  · rintro w' ⟨s1, s2, s3⟩
    obtain ⟨z0, z1, z2⟩ := (B3.after s1).cells3
    obtain ⟨z3, z4, z5⟩ := (B4.after s1).cells3
    go_simp
    with_reducible rfl
  rotate_left
  · simp only [Act.put, List.setIfInBounds_toArray, List.set_cons_zero, List.set_cons_succ, i64_w, i32_w]
    rfl
  refine take_ (i := 3) (N := some 38) (v := ?_) (a' := ?_) #[true, true, true, true, true, false, true, false, true, false, true, false, false, false, false, false, false] rfl rfl (by kernel_rfl) (fun _ _ _ h => h) (Or.inl ⟨by rfl, ?_⟩) hHeld ?_ ?_
  rotate_left
  · rintro w' ⟨s1, s2, s3⟩
    obtain ⟨z0, z1, z2⟩ := (B3.after s1).cells3
    obtain ⟨z3, z4, z5⟩ := (B4.after s1).cells3
    go_simp
    with_reducible rfl
  rotate_left
  · simp only [Act.put, List.setIfInBounds_toArray, List.set_cons_zero, List.set_cons_succ, i64_w, i32_w]
    rfl
  refine take_ (i := 7) (N := some 42) (v := ?_) (a' := ?_) #[true, true, true, true, true, false, true, true, true, false, true, false, false, false, false, false, false] rfl rfl (by kernel_rfl) (fun _ _ _ h => h) (Or.inl ⟨by rfl, ?_⟩) hHeld ?_ ?_
  rotate_left
  · rintro w' ⟨s1, s2, s3⟩
    obtain ⟨z0, z1, z2⟩ := (B3.after s1).cells3
    obtain ⟨z3, z4, z5⟩ := (B4.after s1).cells3
    go_simp
    with_reducible rfl
  rotate_left
  · simp only [Act.put, List.setIfInBounds_toArray, List.set_cons_zero, List.set_cons_succ, i64_w, i32_w]
    rfl
  refine take_ (i := 9) (N := some 44) (v := ?_) (a' := ?_) #[true, true, true, true, true, false, true, true, true, true, true, false, false, false, false, false, false] rfl rfl (by kernel_rfl) (fun _ _ _ h => h) (Or.inl ⟨by rfl, ?_⟩) hHeld ?_ ?_
  rotate_left
  · rintro w' ⟨s1, s2, s3⟩
    obtain ⟨z0, z1, z2⟩ := (B3.after s1).cells3
    obtain ⟨z3, z4, z5⟩ := (B4.after s1).cells3
    go_simp
    with_reducible rfl
  rotate_left
  · simp only [Act.put, List.setIfInBounds_toArray, List.set_cons_zero, List.set_cons_succ, i64_w, i32_w]
    rfl
  refine take_ (i := 11) (N := some 46) (v := ?_) (a' := ?_) #[true, true, true, true, true, false, true, true, true, true, true, true, false, false, false, false, false] rfl rfl (by kernel_rfl) (fun _ _ _ h => h) (Or.inl ⟨by rfl, ?_⟩) hHeld ?_ ?_
  rotate_left
  · rintro w' ⟨s1, s2, s3⟩
    obtain ⟨z0, z1, z2⟩ := (B3.after s1).cells3
    obtain ⟨z3, z4, z5⟩ := (B4.after s1).cells3
    go_simp
    with_reducible rfl
  rotate_left
  · simp only [Act.put, List.setIfInBounds_toArray, List.set_cons_zero, List.set_cons_succ, i64_w, i32_w]
    rfl
  refine join_ (σ := Nat × Nat × List Int × List Int) 2 #[true, true, true, true, true, true, true, true, true, true, true, true, true, true, true, false, false] (fun s => [(40, .agg (nums .u8 s.2.2.1).toArray), (47, .agg (nums .u8 s.2.2.2).toArray), (10, .pointer (some ⟨s.1, 0, none⟩)), (11, .pointer (some ⟨s.2.1, 0, none⟩))]) (fun s w' => (Below w1.heap.size w1 w' ∧ Blk w' P8 24 (arr4 p0 p1 p2 p3) ∧ Blk w' P9 24 (arr4 q0 q1 q2 q3)) ∧ (s.2.2.1.length = 256 ∧ ∀ b, 0 ≤ b → b < 256 → rd s.2.2.1 b = if mk3 f1 t1 xs b = true then 1 else 0) ∧ (s.2.2.2.length = 256 ∧ ∀ b, 0 ≤ b → b < 256 → rd s.2.2.2 b = if mk3 f2 t2 ys b = true then 1 else 0) ∧ Blk w' s.1 26 (nums .u8 no256).toArray ∧ Blk w' s.2.1 26 (nums .u8 no256).toArray ∧ (w1.heap.size ≤ s.1 ∧ P8 < s.1 ∧ P9 < s.1) ∧ (w1.heap.size ≤ s.2.1 ∧ P8 < s.2.1 ∧ P9 < s.2.1) ∧ s.1 ≠ s.2.1) ?_ ?_
  rotate_left
  · intro hJ
    refine three_ (i := 5) (j := 13) (k := 14) (Ni := some 40) (Nj := some 10) (Nk := some 11) #[true, true, true, true, true, true, true, true, true, true, true, true, false, false, false, false, false] #[true, true, true, true, true, false, true, true, true, true, true, true, false, true, false, false, false] #[true, true, true, true, true, false, true, true, true, true, true, true, false, false, true, false, false] rfl rfl rfl rfl rfl rfl (by kernel_rfl) (by decide) (by decide) (by decide) (fun K hK => ?_) (fun K hK => ?_) (fun K hK => ?_)
    · skip
      refine goes_ Try.func30 (by kernel_rfl) rfl #[.int .u8 f1, .int .u8 t1, .slice A7 xs.length c7] (by rfl) rfl rfl (by first | rfl | (simp only [List.map_toArray, List.map_cons, List.map_nil]; done) | (simp only [List.map_toArray, List.map_cons, List.map_nil]; rfl)) ?_
      refine (rmake_any f1 t1 A7 c7 xs _ hf1.1 hf1.2 ht1.1 ht1.2 Hrx.out (HR7.out.below hHeld.1)).mono ?_
      rintro _ wq ⟨m, hm, rfl, hbc⟩
      refine ⟨_, rfl, ?_⟩
      have Hm := Lib.hid hm
      clear hm
      refine hK.out _ _ (hst _ _ hHeld hbc) (fun hHeld => ?_)
      clear hK K
      refine norm_ (a' := ?_) ?_ ?_
      rotate_left
      · show Act.put _ (some 40) _ = _
        simp only [Act.put, List.setIfInBounds_toArray, List.set_cons_zero, List.set_cons_succ, i64_w, i32_w]
        rfl
      refine three_ (i := 12) (j := 13) (k := 14) (Ni := some 47) (Nj := some 10) (Nk := some 11) #[true, true, true, true, true, true, true, true, true, true, true, true, true, false, false, false, false] #[true, true, true, true, true, true, true, true, true, true, true, true, false, true, false, false, false] #[true, true, true, true, true, true, true, true, true, true, true, true, false, false, true, false, false] rfl rfl rfl rfl rfl rfl (by kernel_rfl) (by decide) (by decide) (by decide) (fun K hK => ?_) (fun K hK => ?_) (fun K hK => ?_)
      · skip
        refine goes_ Try.func30 (by kernel_rfl) rfl #[.int .u8 f2, .int .u8 t2, .slice A2 ys.length c2] (by rfl) rfl rfl (by first | rfl | (simp only [List.map_toArray, List.map_cons, List.map_nil]; done) | (simp only [List.map_toArray, List.map_cons, List.map_nil]; rfl)) ?_
        refine (rmake_any f2 t2 A2 c2 ys _ hf2.1 hf2.2 ht2.1 ht2.2 Hry.out (HR2.out.below hHeld.1)).mono ?_
        rintro _ wq ⟨n, hn, rfl, hbc⟩
        refine ⟨_, rfl, ?_⟩
        have Hn := Lib.hid hn
        clear hn
        refine hK.out _ _ (hst _ _ hHeld hbc) (fun hHeld => ?_)
        clear hK K
        refine norm_ (a' := ?_) ?_ ?_
        rotate_left
        · show Act.put _ (some 47) _ = _
          simp only [Act.put, List.setIfInBounds_toArray, List.set_cons_zero, List.set_cons_succ, i64_w, i32_w]
          rfl
        refine two_ (i := 13) (j := 14) (Ni := some 10) (Nj := some 11) #[true, true, true, true, true, true, true, true, true, true, true, true, true, true, false, false, false] #[true, true, true, true, true, true, true, true, true, true, true, true, true, false, true, false, false] rfl rfl rfl rfl (by kernel_rfl) (by decide) (by decide) (fun K hK => ?_) (fun K hK => ?_)
        · skip
          refine alloc_ (by rfl) rfl (by go_simp; rfl) (fun g13 w13 e13 b13 l13 => ?_)
          have m13 := hsz _ hHeld
          rw [e13] at m13
          refine hK.out _ _ (hst _ _ hHeld l13) (fun hHeld => ?_)
          clear hK K
          refine norm_ (a' := ?_) ?_ ?_
          rotate_left
          · show Act.put _ (some 10) _ = _
            simp only [Act.put, List.setIfInBounds_toArray, List.set_cons_zero, List.set_cons_succ, i64_w, i32_w]
            rfl
          refine one_ (i := 14) (N := some 11) #[true, true, true, true, true, true, true, true, true, true, true, true, true, true, true, false, false] rfl rfl (by kernel_rfl) (by decide) (fun K hK => ?_)
          refine alloc_ (by rfl) rfl (by go_simp; rfl) (fun g14 w14 e14 b14 l14 => ?_)
          have m14 := hsz _ hHeld
          rw [e14] at m14
          have n13_14 : g13 ≠ g14 := by have := b13.lt; omega
          replace b13 := b13.after l14
          refine hK.out _ _ (hst _ _ hHeld l14) (fun hHeld => ?_)
          clear hK K
          refine norm_ (a' := ?_) ?_ ?_
          rotate_left
          · show Act.put _ (some 11) _ = _
            simp only [Act.put, List.setIfInBounds_toArray, List.set_cons_zero, List.set_cons_succ, i64_w, i32_w]
            rfl
          exact norm_ (by simp only [putAll, Act.put, List.setIfInBounds_toArray, List.set_cons_zero, List.set_cons_succ]) (hJ (g13, g14, m, n) _ ⟨hHeld, Hm.out, Hn.out, b13, b14, m13, m14, (show g13 ≠ g14 from by omega)⟩)
        · skip
          refine alloc_ (by rfl) rfl (by go_simp; rfl) (fun g14 w14 e14 b14 l14 => ?_)
          have m14 := hsz _ hHeld
          rw [e14] at m14
          refine hK.out _ _ (hst _ _ hHeld l14) (fun hHeld => ?_)
          clear hK K
          refine norm_ (a' := ?_) ?_ ?_
          rotate_left
          · show Act.put _ (some 11) _ = _
            simp only [Act.put, List.setIfInBounds_toArray, List.set_cons_zero, List.set_cons_succ, i64_w, i32_w]
            rfl
          refine one_ (i := 13) (N := some 10) #[true, true, true, true, true, true, true, true, true, true, true, true, true, true, true, false, false] rfl rfl (by kernel_rfl) (by decide) (fun K hK => ?_)
          refine alloc_ (by rfl) rfl (by go_simp; rfl) (fun g13 w13 e13 b13 l13 => ?_)
          have m13 := hsz _ hHeld
          rw [e13] at m13
          have n14_13 : g14 ≠ g13 := by have := b14.lt; omega
          replace b14 := b14.after l13
          refine hK.out _ _ (hst _ _ hHeld l13) (fun hHeld => ?_)
          clear hK K
          refine norm_ (a' := ?_) ?_ ?_
          rotate_left
          · show Act.put _ (some 10) _ = _
            simp only [Act.put, List.setIfInBounds_toArray, List.set_cons_zero, List.set_cons_succ, i64_w, i32_w]
            rfl
          exact norm_ (by simp only [putAll, Act.put, List.setIfInBounds_toArray, List.set_cons_zero, List.set_cons_succ]) (hJ (g13, g14, m, n) _ ⟨hHeld, Hm.out, Hn.out, b13, b14, m13, m14, (show g13 ≠ g14 from by omega)⟩)
      · skip
        refine alloc_ (by rfl) rfl (by go_simp; rfl) (fun g13 w13 e13 b13 l13 => ?_)
        have m13 := hsz _ hHeld
        rw [e13] at m13
        refine hK.out _ _ (hst _ _ hHeld l13) (fun hHeld => ?_)
        clear hK K
        refine norm_ (a' := ?_) ?_ ?_
        rotate_left
        · show Act.put _ (some 10) _ = _
          simp only [Act.put, List.setIfInBounds_toArray, List.set_cons_zero, List.set_cons_succ, i64_w, i32_w]
          rfl
        refine two_ (i := 12) (j := 14) (Ni := some 47) (Nj := some 11) #[true, true, true, true, true, true, true, true, true, true, true, true, true, true, false, false, false] #[true, true, true, true, true, true, true, true, true, true, true, true, false, true, true, false, false] rfl rfl rfl rfl (by kernel_rfl) (by decide) (by decide) (fun K hK => ?_) (fun K hK => ?_)
        · skip
          refine goes_ Try.func30 (by kernel_rfl) rfl #[.int .u8 f2, .int .u8 t2, .slice A2 ys.length c2] (by rfl) rfl rfl (by first | rfl | (simp only [List.map_toArray, List.map_cons, List.map_nil]; done) | (simp only [List.map_toArray, List.map_cons, List.map_nil]; rfl)) ?_
          refine (rmake_any f2 t2 A2 c2 ys _ hf2.1 hf2.2 ht2.1 ht2.2 Hry.out (HR2.out.below hHeld.1)).mono ?_
          rintro _ wq ⟨n, hn, rfl, hbc⟩
          refine ⟨_, rfl, ?_⟩
          replace b13 := b13.after hbc
          have Hn := Lib.hid hn
          clear hn
          refine hK.out _ _ (hst _ _ hHeld hbc) (fun hHeld => ?_)
          clear hK K
          refine norm_ (a' := ?_) ?_ ?_
          rotate_left
          · show Act.put _ (some 47) _ = _
            simp only [Act.put, List.setIfInBounds_toArray, List.set_cons_zero, List.set_cons_succ, i64_w, i32_w]
            rfl
          refine one_ (i := 14) (N := some 11) #[true, true, true, true, true, true, true, true, true, true, true, true, true, true, true, false, false] rfl rfl (by kernel_rfl) (by decide) (fun K hK => ?_)
          refine alloc_ (by rfl) rfl (by go_simp; rfl) (fun g14 w14 e14 b14 l14 => ?_)
          have m14 := hsz _ hHeld
          rw [e14] at m14
          have n13_14 : g13 ≠ g14 := by have := b13.lt; omega
          replace b13 := b13.after l14
          refine hK.out _ _ (hst _ _ hHeld l14) (fun hHeld => ?_)
          clear hK K
          refine norm_ (a' := ?_) ?_ ?_
          rotate_left
          · show Act.put _ (some 11) _ = _
            simp only [Act.put, List.setIfInBounds_toArray, List.set_cons_zero, List.set_cons_succ, i64_w, i32_w]
            rfl
          exact norm_ (by simp only [putAll, Act.put, List.setIfInBounds_toArray, List.set_cons_zero, List.set_cons_succ]) (hJ (g13, g14, m, n) _ ⟨hHeld, Hm.out, Hn.out, b13, b14, m13, m14, (show g13 ≠ g14 from by omega)⟩)
        · skip
          refine alloc_ (by rfl) rfl (by go_simp; rfl) (fun g14 w14 e14 b14 l14 => ?_)
          have m14 := hsz _ hHeld
          rw [e14] at m14
          have n13_14 : g13 ≠ g14 := by have := b13.lt; omega
          replace b13 := b13.after l14
          refine hK.out _ _ (hst _ _ hHeld l14) (fun hHeld => ?_)
          clear hK K
          refine norm_ (a' := ?_) ?_ ?_
          rotate_left
          · show Act.put _ (some 11) _ = _
            simp only [Act.put, List.setIfInBounds_toArray, List.set_cons_zero, List.set_cons_succ, i64_w, i32_w]
            rfl
          refine one_ (i := 12) (N := some 47) #[true, true, true, true, true, true, true, true, true, true, true, true, true, true, true, false, false] rfl rfl (by kernel_rfl) (by decide) (fun K hK => ?_)
          refine goes_ Try.func30 (by kernel_rfl) rfl #[.int .u8 f2, .int .u8 t2, .slice A2 ys.length c2] (by rfl) rfl rfl (by first | rfl | (simp only [List.map_toArray, List.map_cons, List.map_nil]; done) | (simp only [List.map_toArray, List.map_cons, List.map_nil]; rfl)) ?_
          refine (rmake_any f2 t2 A2 c2 ys _ hf2.1 hf2.2 ht2.1 ht2.2 Hry.out (HR2.out.below hHeld.1)).mono ?_
          rintro _ wq ⟨n, hn, rfl, hbc⟩
          refine ⟨_, rfl, ?_⟩
          replace b13 := b13.after hbc
          replace b14 := b14.after hbc
          have Hn := Lib.hid hn
          clear hn
          refine hK.out _ _ (hst _ _ hHeld hbc) (fun hHeld => ?_)
          clear hK K
          refine norm_ (a' := ?_) ?_ ?_
          rotate_left
          · show Act.put _ (some 47) _ = _
            simp only [Act.put, List.setIfInBounds_toArray, List.set_cons_zero, List.set_cons_succ, i64_w, i32_w]
            rfl
          exact norm_ (by simp only [putAll, Act.put, List.setIfInBounds_toArray, List.set_cons_zero, List.set_cons_succ]) (hJ (g13, g14, m, n) _ ⟨hHeld, Hm.out, Hn.out, b13, b14, m13, m14, (show g13 ≠ g14 from by omega)⟩)
      · skip
        refine alloc_ (by rfl) rfl (by go_simp; rfl) (fun g14 w14 e14 b14 l14 => ?_)
        have m14 := hsz _ hHeld
        rw [e14] at m14
        refine hK.out _ _ (hst _ _ hHeld l14) (fun hHeld => ?_)
        clear hK K
        refine norm_ (a' := ?_) ?_ ?_
        rotate_left
        · show Act.put _ (some 11) _ = _
          simp only [Act.put, List.setIfInBounds_toArray, List.set_cons_zero, List.set_cons_succ, i64_w, i32_w]
          rfl
        refine two_ (i := 12) (j := 13) (Ni := some 47) (Nj := some 10) #[true, true, true, true, true, true, true, true, true, true, true, true, true, false, true, false, false] #[true, true, true, true, true, true, true, true, true, true, true, true, false, true, true, false, false] rfl rfl rfl rfl (by kernel_rfl) (by decide) (by decide) (fun K hK => ?_) (fun K hK => ?_)
        · skip
          refine goes_ Try.func30 (by kernel_rfl) rfl #[.int .u8 f2, .int .u8 t2, .slice A2 ys.length c2] (by rfl) rfl rfl (by first | rfl | (simp only [List.map_toArray, List.map_cons, List.map_nil]; done) | (simp only [List.map_toArray, List.map_cons, List.map_nil]; rfl)) ?_
          refine (rmake_any f2 t2 A2 c2 ys _ hf2.1 hf2.2 ht2.1 ht2.2 Hry.out (HR2.out.below hHeld.1)).mono ?_
          rintro _ wq ⟨n, hn, rfl, hbc⟩
          refine ⟨_, rfl, ?_⟩
          replace b14 := b14.after hbc
          have Hn := Lib.hid hn
          clear hn
          refine hK.out _ _ (hst _ _ hHeld hbc) (fun hHeld => ?_)
          clear hK K
          refine norm_ (a' := ?_) ?_ ?_
          rotate_left
          · show Act.put _ (some 47) _ = _
            simp only [Act.put, List.setIfInBounds_toArray, List.set_cons_zero, List.set_cons_succ, i64_w, i32_w]
            rfl
          refine one_ (i := 13) (N := some 10) #[true, true, true, true, true, true, true, true, true, true, true, true, true, true, true, false, false] rfl rfl (by kernel_rfl) (by decide) (fun K hK => ?_)
          refine alloc_ (by rfl) rfl (by go_simp; rfl) (fun g13 w13 e13 b13 l13 => ?_)
          have m13 := hsz _ hHeld
          rw [e13] at m13
          have n14_13 : g14 ≠ g13 := by have := b14.lt; omega
          replace b14 := b14.after l13
          refine hK.out _ _ (hst _ _ hHeld l13) (fun hHeld => ?_)
          clear hK K
          refine norm_ (a' := ?_) ?_ ?_
          rotate_left
          · show Act.put _ (some 10) _ = _
            simp only [Act.put, List.setIfInBounds_toArray, List.set_cons_zero, List.set_cons_succ, i64_w, i32_w]
            rfl
          exact norm_ (by simp only [putAll, Act.put, List.setIfInBounds_toArray, List.set_cons_zero, List.set_cons_succ]) (hJ (g13, g14, m, n) _ ⟨hHeld, Hm.out, Hn.out, b13, b14, m13, m14, (show g13 ≠ g14 from by omega)⟩)
        · skip
          refine alloc_ (by rfl) rfl (by go_simp; rfl) (fun g13 w13 e13 b13 l13 => ?_)
          have m13 := hsz _ hHeld
          rw [e13] at m13
          have n14_13 : g14 ≠ g13 := by have := b14.lt; omega
          replace b14 := b14.after l13
          refine hK.out _ _ (hst _ _ hHeld l13) (fun hHeld => ?_)
          clear hK K
          refine norm_ (a' := ?_) ?_ ?_
          rotate_left
          · show Act.put _ (some 10) _ = _
            simp only [Act.put, List.setIfInBounds_toArray, List.set_cons_zero, List.set_cons_succ, i64_w, i32_w]
            rfl
          refine one_ (i := 12) (N := some 47) #[true, true, true, true, true, true, true, true, true, true, true, true, true, true, true, false, false] rfl rfl (by kernel_rfl) (by decide) (fun K hK => ?_)
          refine goes_ Try.func30 (by kernel_rfl) rfl #[.int .u8 f2, .int .u8 t2, .slice A2 ys.length c2] (by rfl) rfl rfl (by first | rfl | (simp only [List.map_toArray, List.map_cons, List.map_nil]; done) | (simp only [List.map_toArray, List.map_cons, List.map_nil]; rfl)) ?_
          refine (rmake_any f2 t2 A2 c2 ys _ hf2.1 hf2.2 ht2.1 ht2.2 Hry.out (HR2.out.below hHeld.1)).mono ?_
          rintro _ wq ⟨n, hn, rfl, hbc⟩
          refine ⟨_, rfl, ?_⟩
          replace b14 := b14.after hbc
          replace b13 := b13.after hbc
          have Hn := Lib.hid hn
          clear hn
          refine hK.out _ _ (hst _ _ hHeld hbc) (fun hHeld => ?_)
          clear hK K
          refine norm_ (a' := ?_) ?_ ?_
          rotate_left
          · show Act.put _ (some 47) _ = _
            simp only [Act.put, List.setIfInBounds_toArray, List.set_cons_zero, List.set_cons_succ, i64_w, i32_w]
            rfl
          exact norm_ (by simp only [putAll, Act.put, List.setIfInBounds_toArray, List.set_cons_zero, List.set_cons_succ]) (hJ (g13, g14, m, n) _ ⟨hHeld, Hm.out, Hn.out, b13, b14, m13, m14, (show g13 ≠ g14 from by omega)⟩)
    · skip
      refine alloc_ (by rfl) rfl (by go_simp; rfl) (fun g13 w13 e13 b13 l13 => ?_)
      have m13 := hsz _ hHeld
      rw [e13] at m13
      refine hK.out _ _ (hst _ _ hHeld l13) (fun hHeld => ?_)
      clear hK K
      refine norm_ (a' := ?_) ?_ ?_
      rotate_left
      · show Act.put _ (some 10) _ = _
        simp only [Act.put, List.setIfInBounds_toArray, List.set_cons_zero, List.set_cons_succ, i64_w, i32_w]
        rfl
      refine two_ (i := 5) (j := 14) (Ni := some 40) (Nj := some 11) #[true, true, true, true, true, true, true, true, true, true, true, true, false, true, false, false, false] #[true, true, true, true, true, false, true, true, true, true, true, true, false, true, true, false, false] rfl rfl rfl rfl (by kernel_rfl) (by decide) (by decide) (fun K hK => ?_) (fun K hK => ?_)
      · skip
        refine goes_ Try.func30 (by kernel_rfl) rfl #[.int .u8 f1, .int .u8 t1, .slice A7 xs.length c7] (by rfl) rfl rfl (by first | rfl | (simp only [List.map_toArray, List.map_cons, List.map_nil]; done) | (simp only [List.map_toArray, List.map_cons, List.map_nil]; rfl)) ?_
        refine (rmake_any f1 t1 A7 c7 xs _ hf1.1 hf1.2 ht1.1 ht1.2 Hrx.out (HR7.out.below hHeld.1)).mono ?_
        rintro _ wq ⟨m, hm, rfl, hbc⟩
        refine ⟨_, rfl, ?_⟩
        replace b13 := b13.after hbc
        have Hm := Lib.hid hm
        clear hm
        refine hK.out _ _ (hst _ _ hHeld hbc) (fun hHeld => ?_)
        clear hK K
        refine norm_ (a' := ?_) ?_ ?_
        rotate_left
        · show Act.put _ (some 40) _ = _
          simp only [Act.put, List.setIfInBounds_toArray, List.set_cons_zero, List.set_cons_succ, i64_w, i32_w]
          rfl
        refine two_ (i := 12) (j := 14) (Ni := some 47) (Nj := some 11) #[true, true, true, true, true, true, true, true, true, true, true, true, true, true, false, false, false] #[true, true, true, true, true, true, true, true, true, true, true, true, false, true, true, false, false] rfl rfl rfl rfl (by kernel_rfl) (by decide) (by decide) (fun K hK => ?_) (fun K hK => ?_)
        · skip
          refine goes_ Try.func30 (by kernel_rfl) rfl #[.int .u8 f2, .int .u8 t2, .slice A2 ys.length c2] (by rfl) rfl rfl (by first | rfl | (simp only [List.map_toArray, List.map_cons, List.map_nil]; done) | (simp only [List.map_toArray, List.map_cons, List.map_nil]; rfl)) ?_
          refine (rmake_any f2 t2 A2 c2 ys _ hf2.1 hf2.2 ht2.1 ht2.2 Hry.out (HR2.out.below hHeld.1)).mono ?_
          rintro _ wq ⟨n, hn, rfl, hbc⟩
          refine ⟨_, rfl, ?_⟩
          replace b13 := b13.after hbc
          have Hn := Lib.hid hn
          clear hn
          refine hK.out _ _ (hst _ _ hHeld hbc) (fun hHeld => ?_)
          clear hK K
          refine norm_ (a' := ?_) ?_ ?_
          rotate_left
          · show Act.put _ (some 47) _ = _
            simp only [Act.put, List.setIfInBounds_toArray, List.set_cons_zero, List.set_cons_succ, i64_w, i32_w]
            rfl
          refine one_ (i := 14) (N := some 11) #[true, true, true, true, true, true, true, true, true, true, true, true, true, true, true, false, false] rfl rfl (by kernel_rfl) (by decide) (fun K hK => ?_)
          refine alloc_ (by rfl) rfl (by go_simp; rfl) (fun g14 w14 e14 b14 l14 => ?_)
          have m14 := hsz _ hHeld
          rw [e14] at m14
          have n13_14 : g13 ≠ g14 := by have := b13.lt; omega
          replace b13 := b13.after l14
          refine hK.out _ _ (hst _ _ hHeld l14) (fun hHeld => ?_)
          clear hK K
          refine norm_ (a' := ?_) ?_ ?_
          rotate_left
          · show Act.put _ (some 11) _ = _
            simp only [Act.put, List.setIfInBounds_toArray, List.set_cons_zero, List.set_cons_succ, i64_w, i32_w]
            rfl
          exact norm_ (by simp only [putAll, Act.put, List.setIfInBounds_toArray, List.set_cons_zero, List.set_cons_succ]) (hJ (g13, g14, m, n) _ ⟨hHeld, Hm.out, Hn.out, b13, b14, m13, m14, (show g13 ≠ g14 from by omega)⟩)
        · skip
          refine alloc_ (by rfl) rfl (by go_simp; rfl) (fun g14 w14 e14 b14 l14 => ?_)
          have m14 := hsz _ hHeld
          rw [e14] at m14
          have n13_14 : g13 ≠ g14 := by have := b13.lt; omega
          replace b13 := b13.after l14
          refine hK.out _ _ (hst _ _ hHeld l14) (fun hHeld => ?_)
          clear hK K
          refine norm_ (a' := ?_) ?_ ?_
          rotate_left
          · show Act.put _ (some 11) _ = _
            simp only [Act.put, List.setIfInBounds_toArray, List.set_cons_zero, List.set_cons_succ, i64_w, i32_w]
            rfl
          refine one_ (i := 12) (N := some 47) #[true, true, true, true, true, true, true, true, true, true, true, true, true, true, true, false, false] rfl rfl (by kernel_rfl) (by decide) (fun K hK => ?_)
          refine goes_ Try.func30 (by kernel_rfl) rfl #[.int .u8 f2, .int .u8 t2, .slice A2 ys.length c2] (by rfl) rfl rfl (by first | rfl | (simp only [List.map_toArray, List.map_cons, List.map_nil]; done) | (simp only [List.map_toArray, List.map_cons, List.map_nil]; rfl)) ?_
          refine (rmake_any f2 t2 A2 c2 ys _ hf2.1 hf2.2 ht2.1 ht2.2 Hry.out (HR2.out.below hHeld.1)).mono ?_
          rintro _ wq ⟨n, hn, rfl, hbc⟩
          refine ⟨_, rfl, ?_⟩
          replace b13 := b13.after hbc
          replace b14 := b14.after hbc
          have Hn := Lib.hid hn
          clear hn
          refine hK.out _ _ (hst _ _ hHeld hbc) (fun hHeld => ?_)
          clear hK K
          refine norm_ (a' := ?_) ?_ ?_
          rotate_left
          · show Act.put _ (some 47) _ = _
            simp only [Act.put, List.setIfInBounds_toArray, List.set_cons_zero, List.set_cons_succ, i64_w, i32_w]
            rfl
          exact norm_ (by simp only [putAll, Act.put, List.setIfInBounds_toArray, List.set_cons_zero, List.set_cons_succ]) (hJ (g13, g14, m, n) _ ⟨hHeld, Hm.out, Hn.out, b13, b14, m13, m14, (show g13 ≠ g14 from by omega)⟩)
      · skip
        refine alloc_ (by rfl) rfl (by go_simp; rfl) (fun g14 w14 e14 b14 l14 => ?_)
        have m14 := hsz _ hHeld
        rw [e14] at m14
        have n13_14 : g13 ≠ g14 := by have := b13.lt; omega
        replace b13 := b13.after l14
        refine hK.out _ _ (hst _ _ hHeld l14) (fun hHeld => ?_)
        clear hK K
        refine norm_ (a' := ?_) ?_ ?_
        rotate_left
        · show Act.put _ (some 11) _ = _
          simp only [Act.put, List.setIfInBounds_toArray, List.set_cons_zero, List.set_cons_succ, i64_w, i32_w]
          rfl
        refine one_ (i := 5) (N := some 40) #[true, true, true, true, true, true, true, true, true, true, true, true, false, true, true, false, false] rfl rfl (by kernel_rfl) (by decide) (fun K hK => ?_)
        refine goes_ Try.func30 (by kernel_rfl) rfl #[.int .u8 f1, .int .u8 t1, .slice A7 xs.length c7] (by rfl) rfl rfl (by first | rfl | (simp only [List.map_toArray, List.map_cons, List.map_nil]; done) | (simp only [List.map_toArray, List.map_cons, List.map_nil]; rfl)) ?_
        refine (rmake_any f1 t1 A7 c7 xs _ hf1.1 hf1.2 ht1.1 ht1.2 Hrx.out (HR7.out.below hHeld.1)).mono ?_
        rintro _ wq ⟨m, hm, rfl, hbc⟩
        refine ⟨_, rfl, ?_⟩
        replace b13 := b13.after hbc
        replace b14 := b14.after hbc
        have Hm := Lib.hid hm
        clear hm
        refine hK.out _ _ (hst _ _ hHeld hbc) (fun hHeld => ?_)
        clear hK K
        refine norm_ (a' := ?_) ?_ ?_
        rotate_left
        · show Act.put _ (some 40) _ = _
          simp only [Act.put, List.setIfInBounds_toArray, List.set_cons_zero, List.set_cons_succ, i64_w, i32_w]
          rfl
        refine one_ (i := 12) (N := some 47) #[true, true, true, true, true, true, true, true, true, true, true, true, true, true, true, false, false] rfl rfl (by kernel_rfl) (by decide) (fun K hK => ?_)
        refine goes_ Try.func30 (by kernel_rfl) rfl #[.int .u8 f2, .int .u8 t2, .slice A2 ys.length c2] (by rfl) rfl rfl (by first | rfl | (simp only [List.map_toArray, List.map_cons, List.map_nil]; done) | (simp only [List.map_toArray, List.map_cons, List.map_nil]; rfl)) ?_
        refine (rmake_any f2 t2 A2 c2 ys _ hf2.1 hf2.2 ht2.1 ht2.2 Hry.out (HR2.out.below hHeld.1)).mono ?_
        rintro _ wq ⟨n, hn, rfl, hbc⟩
        refine ⟨_, rfl, ?_⟩
        replace b13 := b13.after hbc
        replace b14 := b14.after hbc
        have Hn := Lib.hid hn
        clear hn
        refine hK.out _ _ (hst _ _ hHeld hbc) (fun hHeld => ?_)
        clear hK K
        refine norm_ (a' := ?_) ?_ ?_
        rotate_left
        · show Act.put _ (some 47) _ = _
          simp only [Act.put, List.setIfInBounds_toArray, List.set_cons_zero, List.set_cons_succ, i64_w, i32_w]
          rfl
        exact norm_ (by simp only [putAll, Act.put, List.setIfInBounds_toArray, List.set_cons_zero, List.set_cons_succ]) (hJ (g13, g14, m, n) _ ⟨hHeld, Hm.out, Hn.out, b13, b14, m13, m14, (show g13 ≠ g14 from by omega)⟩)
    · skip
      refine alloc_ (by rfl) rfl (by go_simp; rfl) (fun g14 w14 e14 b14 l14 => ?_)
      have m14 := hsz _ hHeld
      rw [e14] at m14
      refine hK.out _ _ (hst _ _ hHeld l14) (fun hHeld => ?_)
      clear hK K
      refine norm_ (a' := ?_) ?_ ?_
      rotate_left
      · show Act.put _ (some 11) _ = _
        simp only [Act.put, List.setIfInBounds_toArray, List.set_cons_zero, List.set_cons_succ, i64_w, i32_w]
        rfl
      refine two_ (i := 5) (j := 13) (Ni := some 40) (Nj := some 10) #[true, true, true, true, true, true, true, true, true, true, true, true, false, false, true, false, false] #[true, true, true, true, true, false, true, true, true, true, true, true, false, true, true, false, false] rfl rfl rfl rfl (by kernel_rfl) (by decide) (by decide) (fun K hK => ?_) (fun K hK => ?_)
      · skip
        refine goes_ Try.func30 (by kernel_rfl) rfl #[.int .u8 f1, .int .u8 t1, .slice A7 xs.length c7] (by rfl) rfl rfl (by first | rfl | (simp only [List.map_toArray, List.map_cons, List.map_nil]; done) | (simp only [List.map_toArray, List.map_cons, List.map_nil]; rfl)) ?_
        refine (rmake_any f1 t1 A7 c7 xs _ hf1.1 hf1.2 ht1.1 ht1.2 Hrx.out (HR7.out.below hHeld.1)).mono ?_
        rintro _ wq ⟨m, hm, rfl, hbc⟩
        refine ⟨_, rfl, ?_⟩
        replace b14 := b14.after hbc
        have Hm := Lib.hid hm
        clear hm
        refine hK.out _ _ (hst _ _ hHeld hbc) (fun hHeld => ?_)
        clear hK K
        refine norm_ (a' := ?_) ?_ ?_
        rotate_left
        · show Act.put _ (some 40) _ = _
          simp only [Act.put, List.setIfInBounds_toArray, List.set_cons_zero, List.set_cons_succ, i64_w, i32_w]
          rfl
        refine two_ (i := 12) (j := 13) (Ni := some 47) (Nj := some 10) #[true, true, true, true, true, true, true, true, true, true, true, true, true, false, true, false, false] #[true, true, true, true, true, true, true, true, true, true, true, true, false, true, true, false, false] rfl rfl rfl rfl (by kernel_rfl) (by decide) (by decide) (fun K hK => ?_) (fun K hK => ?_)
        · skip
          refine goes_ Try.func30 (by kernel_rfl) rfl #[.int .u8 f2, .int .u8 t2, .slice A2 ys.length c2] (by rfl) rfl rfl (by first | rfl | (simp only [List.map_toArray, List.map_cons, List.map_nil]; done) | (simp only [List.map_toArray, List.map_cons, List.map_nil]; rfl)) ?_
          refine (rmake_any f2 t2 A2 c2 ys _ hf2.1 hf2.2 ht2.1 ht2.2 Hry.out (HR2.out.below hHeld.1)).mono ?_
          rintro _ wq ⟨n, hn, rfl, hbc⟩
          refine ⟨_, rfl, ?_⟩
          replace b14 := b14.after hbc
          have Hn := Lib.hid hn
          clear hn
          refine hK.out _ _ (hst _ _ hHeld hbc) (fun hHeld => ?_)
          clear hK K
          refine norm_ (a' := ?_) ?_ ?_
          rotate_left
          · show Act.put _ (some 47) _ = _
            simp only [Act.put, List.setIfInBounds_toArray, List.set_cons_zero, List.set_cons_succ, i64_w, i32_w]
            rfl
          refine one_ (i := 13) (N := some 10) #[true, true, true, true, true, true, true, true, true, true, true, true, true, true, true, false, false] rfl rfl (by kernel_rfl) (by decide) (fun K hK => ?_)
          refine alloc_ (by rfl) rfl (by go_simp; rfl) (fun g13 w13 e13 b13 l13 => ?_)
          have m13 := hsz _ hHeld
          rw [e13] at m13
          have n14_13 : g14 ≠ g13 := by have := b14.lt; omega
          replace b14 := b14.after l13
          refine hK.out _ _ (hst _ _ hHeld l13) (fun hHeld => ?_)
          clear hK K
          refine norm_ (a' := ?_) ?_ ?_
          rotate_left
          · show Act.put _ (some 10) _ = _
            simp only [Act.put, List.setIfInBounds_toArray, List.set_cons_zero, List.set_cons_succ, i64_w, i32_w]
            rfl
          exact norm_ (by simp only [putAll, Act.put, List.setIfInBounds_toArray, List.set_cons_zero, List.set_cons_succ]) (hJ (g13, g14, m, n) _ ⟨hHeld, Hm.out, Hn.out, b13, b14, m13, m14, (show g13 ≠ g14 from by omega)⟩)
        · skip
          refine alloc_ (by rfl) rfl (by go_simp; rfl) (fun g13 w13 e13 b13 l13 => ?_)
          have m13 := hsz _ hHeld
          rw [e13] at m13
          have n14_13 : g14 ≠ g13 := by have := b14.lt; omega
          replace b14 := b14.after l13
          refine hK.out _ _ (hst _ _ hHeld l13) (fun hHeld => ?_)
          clear hK K
          refine norm_ (a' := ?_) ?_ ?_
          rotate_left
          · show Act.put _ (some 10) _ = _
            simp only [Act.put, List.setIfInBounds_toArray, List.set_cons_zero, List.set_cons_succ, i64_w, i32_w]
            rfl
          refine one_ (i := 12) (N := some 47) #[true, true, true, true, true, true, true, true, true, true, true, true, true, true, true, false, false] rfl rfl (by kernel_rfl) (by decide) (fun K hK => ?_)
          refine goes_ Try.func30 (by kernel_rfl) rfl #[.int .u8 f2, .int .u8 t2, .slice A2 ys.length c2] (by rfl) rfl rfl (by first | rfl | (simp only [List.map_toArray, List.map_cons, List.map_nil]; done) | (simp only [List.map_toArray, List.map_cons, List.map_nil]; rfl)) ?_
          refine (rmake_any f2 t2 A2 c2 ys _ hf2.1 hf2.2 ht2.1 ht2.2 Hry.out (HR2.out.below hHeld.1)).mono ?_
          rintro _ wq ⟨n, hn, rfl, hbc⟩
          refine ⟨_, rfl, ?_⟩
          replace b14 := b14.after hbc
          replace b13 := b13.after hbc
          have Hn := Lib.hid hn
          clear hn
          refine hK.out _ _ (hst _ _ hHeld hbc) (fun hHeld => ?_)
          clear hK K
          refine norm_ (a' := ?_) ?_ ?_
          rotate_left
          · show Act.put _ (some 47) _ = _
            simp only [Act.put, List.setIfInBounds_toArray, List.set_cons_zero, List.set_cons_succ, i64_w, i32_w]
            rfl
          exact norm_ (by simp only [putAll, Act.put, List.setIfInBounds_toArray, List.set_cons_zero, List.set_cons_succ]) (hJ (g13, g14, m, n) _ ⟨hHeld, Hm.out, Hn.out, b13, b14, m13, m14, (show g13 ≠ g14 from by omega)⟩)
      · skip
        refine alloc_ (by rfl) rfl (by go_simp; rfl) (fun g13 w13 e13 b13 l13 => ?_)
        have m13 := hsz _ hHeld
        rw [e13] at m13
        have n14_13 : g14 ≠ g13 := by have := b14.lt; omega
        replace b14 := b14.after l13
        refine hK.out _ _ (hst _ _ hHeld l13) (fun hHeld => ?_)
        clear hK K
        refine norm_ (a' := ?_) ?_ ?_
        rotate_left
        · show Act.put _ (some 10) _ = _
          simp only [Act.put, List.setIfInBounds_toArray, List.set_cons_zero, List.set_cons_succ, i64_w, i32_w]
          rfl
        refine one_ (i := 5) (N := some 40) #[true, true, true, true, true, true, true, true, true, true, true, true, false, true, true, false, false] rfl rfl (by kernel_rfl) (by decide) (fun K hK => ?_)
        refine goes_ Try.func30 (by kernel_rfl) rfl #[.int .u8 f1, .int .u8 t1, .slice A7 xs.length c7] (by rfl) rfl rfl (by first | rfl | (simp only [List.map_toArray, List.map_cons, List.map_nil]; done) | (simp only [List.map_toArray, List.map_cons, List.map_nil]; rfl)) ?_
        refine (rmake_any f1 t1 A7 c7 xs _ hf1.1 hf1.2 ht1.1 ht1.2 Hrx.out (HR7.out.below hHeld.1)).mono ?_
        rintro _ wq ⟨m, hm, rfl, hbc⟩
        refine ⟨_, rfl, ?_⟩
        replace b14 := b14.after hbc
        replace b13 := b13.after hbc
        have Hm := Lib.hid hm
        clear hm
        refine hK.out _ _ (hst _ _ hHeld hbc) (fun hHeld => ?_)
        clear hK K
        refine norm_ (a' := ?_) ?_ ?_
        rotate_left
        · show Act.put _ (some 40) _ = _
          simp only [Act.put, List.setIfInBounds_toArray, List.set_cons_zero, List.set_cons_succ, i64_w, i32_w]
          rfl
        refine one_ (i := 12) (N := some 47) #[true, true, true, true, true, true, true, true, true, true, true, true, true, true, true, false, false] rfl rfl (by kernel_rfl) (by decide) (fun K hK => ?_)
        refine goes_ Try.func30 (by kernel_rfl) rfl #[.int .u8 f2, .int .u8 t2, .slice A2 ys.length c2] (by rfl) rfl rfl (by first | rfl | (simp only [List.map_toArray, List.map_cons, List.map_nil]; done) | (simp only [List.map_toArray, List.map_cons, List.map_nil]; rfl)) ?_
        refine (rmake_any f2 t2 A2 c2 ys _ hf2.1 hf2.2 ht2.1 ht2.2 Hry.out (HR2.out.below hHeld.1)).mono ?_
        rintro _ wq ⟨n, hn, rfl, hbc⟩
        refine ⟨_, rfl, ?_⟩
        replace b14 := b14.after hbc
        replace b13 := b13.after hbc
        have Hn := Lib.hid hn
        clear hn
        refine hK.out _ _ (hst _ _ hHeld hbc) (fun hHeld => ?_)
        clear hK K
        refine norm_ (a' := ?_) ?_ ?_
        rotate_left
        · show Act.put _ (some 47) _ = _
          simp only [Act.put, List.setIfInBounds_toArray, List.set_cons_zero, List.set_cons_succ, i64_w, i32_w]
          rfl
        exact norm_ (by simp only [putAll, Act.put, List.setIfInBounds_toArray, List.set_cons_zero, List.set_cons_succ]) (hJ (g13, g14, m, n) _ ⟨hHeld, Hm.out, Hn.out, b13, b14, m13, m14, (show g13 ≠ g14 from by omega)⟩)
  rintro ⟨P10, P11, m, n⟩ wf ⟨hHeld, hm, hn, b10, b11, m10, m11, n01⟩
  dsimp only at hm hn b10 b11 m10 m11 n01
  have Hm := Lib.hid hm
  have Hn := Lib.hid hn
  clear hm hn
  refine norm_ (a' := ?_) ?_ ?_
  rotate_left
  · simp only [putAll, Act.put, List.setIfInBounds_toArray, List.set_cons_zero, List.set_cons_succ]
    rfl
  refine one_ (i := 15) (N := none) #[true, true, true, true, true, true, true, true, true, true, true, true, true, true, true, true, false] rfl rfl (by kernel_rfl) (by decide) (fun K hK => ?_)
  refine store_ (by rfl) rfl 26 _ _ rfl P10 (nums .u8 m).toArray rfl rfl 26 _ b10 256 size_S (by rw [nums_size]; exact Hm.out.1) rfl (nums_one _ _) ?_
  intro w15 h15 k15
  replace b11 := b11.grown k15 (by simp; omega)
  refine hK.out _ _ (hstg _ _ P10 hHeld k15 m10) (fun hHeld => ?_)
  clear hK K
  refine one_ (i := 16) (N := none) #[true, true, true, true, true, true, true, true, true, true, true, true, true, true, true, true, true] rfl rfl (by kernel_rfl) (by decide) (fun K hK => ?_)
  refine store_ (by rfl) rfl 26 _ _ rfl P11 (nums .u8 n).toArray rfl rfl 26 _ b11 256 size_S (by rw [nums_size]; exact Hn.out.1) rfl (nums_one _ _) ?_
  intro wv b11n k16
  replace h15 := h15.grown k16 (by simp; omega)
  refine hK.out _ _ (hstg _ _ P11 hHeld k16 m11) (fun hHeld => ?_)
  clear hK K
  refine done_ (by kernel_rfl) ?_
  clear hst hsz hstg b10 b11 k15 k16 h16 h17
  obtain ⟨hbel, b8, b9⟩ := hHeld
  rename Blk wv P10 26 _ => b10
  rename Blk wv P11 26 _ => b11
  clear hz
  have he4 := equal4_t4
  go_upto_region 4 with (fail)
  refine start_ (n := 16) (S := (fun w' => Below wv.heap.size wv w')) (ds := []) #[false, false, false, false, false, false, false, false, false, false, false, false, false, false, false, false] (by kernel_rfl) rfl rfl (Below.refl _ _ : Below wv.heap.size wv wv).drew (fun hHeld => ?_)
  refine one_ (i := 0) (N := some 48) #[true, false, false, false, false, false, false, false, false, false, false, false, false, false, false, false] rfl rfl (by kernel_rfl) (by decide) (fun K hK => ?_)
  refine goes_ Try.func11 (by kernel_rfl) rfl #[] (by rfl) rfl rfl (by first | rfl | (simp only [List.map_toArray, List.map_cons, List.map_nil]; done) | (simp only [List.map_toArray, List.map_cons, List.map_nil]; rfl)) ?_
  refine (awake_any _).mono ?_
  rintro _ _ ⟨rfl, rfl⟩
  refine ⟨_, rfl, ?_⟩
  refine hK.out _ _ (hHeld) (fun hHeld => ?_)
  clear hK K
  refine norm_ (a' := ?_) ?_ ?_
  rotate_left
  · show Act.put _ (some 48) _ = _
    simp only [Act.put, List.setIfInBounds_toArray, List.set_cons_zero, List.set_cons_succ, i64_w, i32_w]
    rfl
  refine pure_ (i := 1) (N := some 49) (v := ?_) (a' := ?_) #[true, true, false, false, false, false, false, false, false, false, false, false, false, false, false, false] rfl rfl (by kernel_rfl) (fun _ _ _ h => h) (Or.inl ⟨by rfl, ?_⟩) ?_ ?_
  rotate_left
  · intro w'
    go_simp
    with_reducible rfl
  rotate_left
  · simp only [Act.put, List.setIfInBounds_toArray, List.set_cons_zero, List.set_cons_succ, i64_w, i32_w]
    rfl
  refine pure_ (i := 2) (N := some 50) (v := ?_) (a' := ?_) #[true, true, true, false, false, false, false, false, false, false, false, false, false, false, false, false] rfl rfl (by kernel_rfl) (fun _ _ _ h => h) (Or.inl ⟨by rfl, ?_⟩) ?_ ?_
  rotate_left
  · intro w'
    go_simp
    with_reducible rfl
  rotate_left
  · simp only [Act.put, List.setIfInBounds_toArray, List.set_cons_zero, List.set_cons_succ, i64_w, i32_w]
    rfl
  refine take_ (i := 3) (N := some 51) (v := ?_) (a' := ?_) #[true, true, true, true, false, false, false, false, false, false, false, false, false, false, false, false] rfl rfl (by kernel_rfl) (fun _ _ _ h => h) (Or.inl ⟨by rfl, ?_⟩) hHeld ?_ ?_
  rotate_left
  · rintro w' s1
    refine exec_load_blk 24 (.tmp 8) ?_ P8 ?_ 24 (b8.after s1) _ Try.underlying24 rfl 4 size_B rfl
    · rfl
    · rfl
  rotate_left
  · simp only [Act.put, List.setIfInBounds_toArray, List.set_cons_zero, List.set_cons_succ, i64_w, i32_w]
    rfl
  refine take_ (i := 4) (N := some 52) (v := ?_) (a' := ?_) #[true, true, true, true, true, false, false, false, false, false, false, false, false, false, false, false] rfl rfl (by kernel_rfl) (fun _ _ _ h => h) (Or.inl ⟨by rfl, ?_⟩) hHeld ?_ ?_
  rotate_left
  · rintro w' s1
    refine exec_load_blk 26 (.tmp 10) ?_ P10 ?_ 26 (b10.after s1) _ Try.underlying26 rfl 256 size_S (by rw [nums_size]; exact Hm.out.1)
    · rfl
    · rfl
  rotate_left
  · simp only [Act.put, List.setIfInBounds_toArray, List.set_cons_zero, List.set_cons_succ, i64_w, i32_w]
    rfl
  refine one_ (i := 5) (N := some 53) #[true, true, true, true, true, true, false, false, false, false, false, false, false, false, false, false] rfl rfl (by kernel_rfl) (by decide) (fun K hK => ?_)
  refine goes_ Try.func31 (by kernel_rfl) rfl #[.agg (nums .u8 m).toArray] (by rfl) rfl rfl (by first | rfl | (simp only [List.map_toArray, List.map_cons, List.map_nil]; done) | (simp only [List.map_toArray, List.map_cons, List.map_nil]; rfl)) ?_
  refine ((rwords_any m _ Hm.out.1).mono (fun _ _ h => such_is Hp.out.1 (fun b h0 h1 => by rw [Hm.out.2 b h0 h1, one_01, Hp.out.2 b h0 h1]) h)).mono ?_
  rintro _ wq ⟨rfl, hbc⟩
  refine ⟨_, rfl, ?_⟩
  refine hK.out _ _ (below_after hHeld hbc) (fun hHeld => ?_)
  clear hK K
  refine norm_ (a' := ?_) ?_ ?_
  rotate_left
  · show Act.put _ (some 53) _ = _
    simp only [Act.put, List.setIfInBounds_toArray, List.set_cons_zero, List.set_cons_succ, i64_w, i32_w]
    rfl
  refine pure_ (i := 6) (N := some 54) (v := ?_) (a' := ?_) #[true, true, true, true, true, true, true, false, false, false, false, false, false, false, false, false] rfl rfl (by kernel_rfl) (fun _ _ _ h => h) (Or.inl ⟨by rfl, ?_⟩) ?_ ?_
  rotate_left
  · intro w'
    go_simp
    with_reducible rfl
  rotate_left
  · simp only [Act.put, List.setIfInBounds_toArray, List.set_cons_zero, List.set_cons_succ, i64_w, i32_w]
    rfl
  refine pure_ (i := 7) (N := some 55) (v := ?_) (a' := ?_) #[true, true, true, true, true, true, true, true, false, false, false, false, false, false, false, false] rfl rfl (by kernel_rfl) (fun _ _ _ h => h) (Or.inl ⟨by rfl, ?_⟩) ?_ ?_
  rotate_left
  · intro w'
    go_simp
    with_reducible rfl
  rotate_left
  · simp only [Act.put, List.setIfInBounds_toArray, List.set_cons_zero, List.set_cons_succ, i64_w, i32_w]
    rfl
  refine pure_ (i := 8) (N := some 56) (v := ?_) (a' := ?_) #[true, true, true, true, true, true, true, true, true, false, false, false, false, false, false, false] rfl rfl (by kernel_rfl) (fun _ _ _ h => h) (Or.inl ⟨by rfl, ?_⟩) ?_ ?_
  rotate_left
  · intro w'
    go_simp
    with_reducible rfl
  rotate_left
  · simp only [Act.put, List.setIfInBounds_toArray, List.set_cons_zero, List.set_cons_succ, i64_w, i32_w]
    rfl
  refine pure_ (i := 9) (N := some 57) (v := ?_) (a' := ?_) #[true, true, true, true, true, true, true, true, true, true, false, false, false, false, false, false] rfl rfl (by kernel_rfl) (fun _ _ _ h => h) (Or.inl ⟨by rfl, ?_⟩) ?_ ?_
  rotate_left
  · intro w'
    go_simp
    with_reducible rfl
  rotate_left
  · simp only [Act.put, List.setIfInBounds_toArray, List.set_cons_zero, List.set_cons_succ, i64_w, i32_w]
    rfl
  refine pure_ (i := 12) (N := some 60) (v := ?_) (a' := ?_) #[true, true, true, true, true, true, true, true, true, true, false, false, true, false, false, false] rfl rfl (by kernel_rfl) (fun _ _ _ h => h) (Or.inl ⟨by rfl, ?_⟩) ?_ ?_
  rotate_left
  · intro w'
    go_simp
    with_reducible rfl
  rotate_left
  · simp only [Act.put, List.setIfInBounds_toArray, List.set_cons_zero, List.set_cons_succ, i64_w, i32_w]
    rfl
  refine take_ (i := 10) (N := some 58) (v := ?_) (a' := ?_) #[true, true, true, true, true, true, true, true, true, true, true, false, true, false, false, false] rfl rfl (by kernel_rfl) (fun _ _ _ h => h) (Or.inl ⟨by rfl, ?_⟩) hHeld ?_ ?_
  rotate_left
  · rintro w' s1
    obtain ⟨z0, z1, z2⟩ := (B3.after (below_after hbel s1)).cells3
    go_simp
    with_reducible rfl
  rotate_left
  · simp only [Act.put, List.setIfInBounds_toArray, List.set_cons_zero, List.set_cons_succ, i64_w, i32_w]
    rfl
  refine take_ (i := 11) (N := some 59) (v := ?_) (a' := ?_) #[true, true, true, true, true, true, true, true, true, true, true, true, true, false, false, false] rfl rfl (by kernel_rfl) (fun _ _ _ h => h) (Or.inl ⟨by rfl, ?_⟩) hHeld ?_ ?_
  rotate_left
  · rintro w' s1
    refine exec_text (src := 44) (dst := 9) (x := .tmp 58) (A := A1) (c := c1) (xs := xs) ?_ ?_ Try.underlying44 Try.underlying5 Try.underlying9 (HR1.out.below (below_after hbel s1))
    · rfl
    · rfl
  rotate_left
  · simp only [Act.put, List.setIfInBounds_toArray, List.set_cons_zero, List.set_cons_succ, i64_w, i32_w]
    rfl
  refine take_ (i := 13) (N := some 61) (v := ?_) (a' := ?_) #[true, true, true, true, true, true, true, true, true, true, true, true, true, true, false, false] rfl rfl (by kernel_rfl) (fun _ _ _ h => h) (Or.inl ⟨by rfl, ?_⟩) hHeld ?_ ?_
  rotate_left
  · rintro w' s1
    refine exec_text (src := 44) (dst := 9) (x := .tmp 60) (A := A7) (c := c7) (xs := xs) ?_ ?_ Try.underlying44 Try.underlying5 Try.underlying9 (HR7.out.below (below_after hbel s1))
    · rfl
    · rfl
  rotate_left
  · simp only [Act.put, List.setIfInBounds_toArray, List.set_cons_zero, List.set_cons_succ, i64_w, i32_w]
    rfl
  refine pure_ (i := 14) (N := some 62) (v := ?_) (a' := ?_) #[true, true, true, true, true, true, true, true, true, true, true, true, true, true, true, false] rfl rfl (by kernel_rfl) (fun _ _ _ h => h) (Or.inl ⟨by rfl, ?_⟩) ?_ ?_
  rotate_left
  · intro w'
    go_simp
    with_reducible rfl
  rotate_left
  · simp only [Act.put, List.setIfInBounds_toArray, List.set_cons_zero, List.set_cons_succ, i64_w, i32_w]
    rfl
  refine pure_ (i := 15) (N := some 63) (v := ?_) (a' := ?_) #[true, true, true, true, true, true, true, true, true, true, true, true, true, true, true, true] rfl rfl (by kernel_rfl) (fun _ _ _ h => h) (Or.inl ⟨by rfl, ?_⟩) ?_ ?_
  rotate_left
  · intro w'
    go_simp
    with_reducible rfl
  rotate_left
  · simp only [Act.put, List.setIfInBounds_toArray, List.set_cons_zero, List.set_cons_succ, i64_w, i32_w]
    rfl
  refine done_ (by kernel_rfl) ?_
  replace hbel := below_after hbel hHeld
  replace b8 := b8.after hHeld
  replace b9 := b9.after hHeld
  replace b10 := b10.after hHeld
  replace b11 := b11.after hHeld
  clear hHeld he4 B3 B4 HR1 HR2 HR7 Hrx Hry
  have hz := zero_S
  have e1 : Blk (((wq.alloc (.cells (nums .u8 no256).toArray 26)).alloc (.cells (nums .u8 no256).toArray 26)).alloc (.cells (nums .u8 no256).toArray 26)) wq.heap.size 26 (nums .u8 no256).toArray := ((Blk.new _ _ _).alloc _).alloc _
  have e2 : Blk (((wq.alloc (.cells (nums .u8 no256).toArray 26)).alloc (.cells (nums .u8 no256).toArray 26)).alloc (.cells (nums .u8 no256).toArray 26)) (wq.heap.size + 1) 26 (nums .u8 no256).toArray := (Blk.at_new (by simp)).alloc _
  have e3 : Blk (((wq.alloc (.cells (nums .u8 no256).toArray 26)).alloc (.cells (nums .u8 no256).toArray 26)).alloc (.cells (nums .u8 no256).toArray 26)) (wq.heap.size + 1 + 1) 26 (nums .u8 no256).toArray := Blk.at_new (by simp)
  have e4 : Below wq.heap.size wq (((wq.alloc (.cells (nums .u8 no256).toArray 26)).alloc (.cells (nums .u8 no256).toArray 26)).alloc (.cells (nums .u8 no256).toArray 26)) := below_alloc (below_alloc (below_one _ _) _) _
  go_upto_region 7 with (first | (refine wp_build_nil rfl 26 rfl 64 rfl _ built_S ?_) | (refine wp_build_nil rfl 26 rfl 65 rfl _ built_S ?_) | (refine wp_build_nil rfl 26 rfl 66 rfl _ built_S ?_) | (refine wp_store_blk rfl 26 _ _ rfl rfl (wq.heap.size) (nums .u8 no256).toArray rfl rfl 26 _ e1 256 size_S rfl rfl (nums_one _ _) ?_; intro wa b12 k12) | (refine wp_store_blk rfl 26 _ _ rfl rfl (wq.heap.size + 1) (nums .u8 no256).toArray rfl rfl 26 _ (e2.grown k12 (by simp <;> omega)) 256 size_S rfl rfl (nums_one _ _) ?_; intro wb b13 k13) | (refine wp_store_blk rfl 26 _ _ rfl rfl (wq.heap.size + 1 + 1) (nums .u8 no256).toArray rfl rfl 26 _ ((e3.grown k12 (by simp <;> omega)).grown k13 (by simp <;> omega)) 256 size_S rfl rfl (nums_one _ _) ?_; intro wc b14 k14))
  replace b12 := (b12.grown k13 (by simp <;> omega)).grown k14 (by simp <;> omega)
  replace b13 := b13.grown k14 (by simp <;> omega)
  have hv : Below wq.heap.size wq wc := below_grown (below_grown (below_grown e4 k12 (Nat.le_refl _)) k13 (by omega)) k14 (by omega)
  have l8 := b8.lt
  have l9 := b9.lt
  have l10 := b10.lt
  have l11 := b11.lt
  have l0 := hbel.size
  replace hbel := below_after hbel hv
  replace b8 := b8.after hv
  replace b9 := b9.after hv
  replace b10 := b10.after hv
  replace b11 := b11.after hv
  clear e1 e2 e3 e4 k12 k13 k14 hv hz
  generalize wq.heap.size = P12 at *
  generalize h13 : P12 + 1 = P13 at *
  generalize h14 : P13 + 1 = P14 at *
  have d12_13 : P12 ≠ P13 := by omega
  have d12_14 : P12 ≠ P14 := by omega
  have d13_14 : P13 ≠ P14 := by omega
  have d8_12 : P8 ≠ P12 := by omega
  have d8_13 : P8 ≠ P13 := by omega
  have d8_14 : P8 ≠ P14 := by omega
  have d9_12 : P9 ≠ P12 := by omega
  have d9_13 : P9 ≠ P13 := by omega
  have d9_14 : P9 ≠ P14 := by omega
  have d10_12 : P10 ≠ P12 := by omega
  have d10_13 : P10 ≠ P13 := by omega
  have d10_14 : P10 ≠ P14 := by omega
  have d11_12 : P11 ≠ P12 := by omega
  have d11_13 : P11 ≠ P13 := by omega
  have d11_14 : P11 ≠ P14 := by omega
  have m12 : w1.heap.size ≤ P12 := by omega
  have m13 : w1.heap.size ≤ P13 := by omega
  have m14 : w1.heap.size ≤ P14 := by omega
  have l14 := b14.lt
  have m15 : P12 ≤ wc.heap.size := by omega
  clear h13 h14 l8 l9 l10 l11 l0 l14
  have ho : (wc.alloc (.cells #[] 5)).ownsRow w1.heap.size 5 1 (.slice (some ⟨wc.heap.size, 0, none⟩) 0 0) ([] : List Int).length (nums .u8 []) := own_lit wc w1.heap.size 5 .u8 [] (by omega) (by simp)
  go_wp2
  go_loopw [15, 16] (fun u v wr => ∃ (k : Int) (e b o mem : List Int), v = .int .i64 k ∧ 0 ≤ k ∧ k ≤ 256 ∧ Hid (e.length = 256 ∧ b.length = 256 ∧ o.length = 256) ∧ Hid (∀ j, 0 ≤ j → j < k → rd e j = bits .or .u8 (rd m j) (rd n j)) ∧ Hid (∀ j, 0 ≤ j → j < k → rd b j = bits .and .u8 (rd m j) (rd n j)) ∧ Hid (∀ j, 0 ≤ j → j < k → rd o j = bits .andNot .u8 (rd m j) (rd n j)) ∧ Hid (mem = memK (fun b => rd m b == 1) k.toNat) ∧ mem.length ≤ 256 ∧ Below w1.heap.size w1 wr ∧ (Blk wr P8 24 (arr4 p0 p1 p2 p3) ∧ Blk wr P9 24 (arr4 q0 q1 q2 q3) ∧ Blk wr P10 26 (nums .u8 m).toArray ∧ Blk wr P11 26 (nums .u8 n).toArray) ∧ Blk wr P12 26 (nums .u8 e).toArray ∧ Blk wr P13 26 (nums .u8 b).toArray ∧ Blk wr P14 26 (nums .u8 o).toArray ∧ wr.ownsRow w1.heap.size 5 1 u mem.length (nums .u8 mem)) (fun _ v _ => 256 - (intOf v).toNat)
  case atStart => exact ⟨0, no256, no256, no256, [], rfl, by omega, by omega, ⟨no256_len, no256_len, no256_len⟩, fun j h0 h1 => by omega, fun j h0 h1 => by omega, fun j h0 h1 => by omega, (memK_zero _).symm, by simp, below_alloc hbel _, ⟨b8.alloc _, b9.alloc _, b10.alloc _, b11.alloc _⟩, b12.alloc _, b13.alloc _, b14.alloc _, ho⟩
  case round =>
    clear hbel b8 b9 b10 b11 b12 b13 b14 ho m15
    obtain ⟨k, e, b, o, mem, rfl, hk0, hk1, hlen, he, hb, ho, hmem, hml, hbel, ⟨b8, b9, b10, b11⟩, b12, b13, b14, hown⟩ := hrel
    by_cases hlt : k < 256
    · skip
      go_upto_region 11 with (fail)
      have cm := blk_num_at b10 k hk0 (by have := Hm.out.1; omega)
      have cn := blk_num_at b11 k hk0 (by have := Hn.out.1; omega)
      go_still_tail 9, (by kernel_rfl)
      change wpList _ _ _ _ _ wr.drew
      clear cm cn
      replace b8 := b8.drew
      replace b9 := b9.drew
      replace b10 := b10.drew
      replace b11 := b11.drew
      replace b12 := b12.drew
      replace b13 := b13.drew
      replace b14 := b14.drew
      replace hown := pw_own_drewN hown 1
      replace hbel := below_drewN hbel 1
      change Below w1.heap.size w1 wr.drew at hbel
      change World.ownsRow wr.drew _ _ _ _ _ _ at hown
      generalize wr.drew = wrd at *
      have fz := b12.frozen k.toNat
      have hin : k.toNat < e.length := by have := hlen.out; omega
      have ck := blk_num_at b12 k hk0 (by omega)
      go_upto_region 12 with (fail)
      clear fz hin ck
      have hgs : World.grownBy wrd (wrd.setCell ⟨P12, k.toNat, none⟩ (.int .u8 (bits .or .u8 (rd m k) (rd n k)))) (some P12) := grown_setCell _ _ _ _
      replace hown := own_other hown hgs (.inr (fun h => own_ne hown b12 (by decide) h.symm))
      replace b8 := b8.grown hgs (by simp; omega)
      replace b9 := b9.grown hgs (by simp; omega)
      replace b10 := b10.grown hgs (by simp; omega)
      replace b11 := b11.grown hgs (by simp; omega)
      replace b13 := b13.grown hgs (by simp; omega)
      replace b14 := b14.grown hgs (by simp; omega)
      replace b12 := blk_num_set b12 k.toNat (bits .or .u8 (rd m k) (rd n k))
      replace hbel := below_set hbel (a := ⟨P12, k.toNat, none⟩) m12 (.int .u8 (bits .or .u8 (rd m k) (rd n k)))
      clear hgs
      generalize wrd.setCell ⟨P12, k.toNat, none⟩ (.int .u8 (bits .or .u8 (rd m k) (rd n k))) = w3 at *
      go_upto_region 12 with (fail)
      have cm := blk_num_at b10 k hk0 (by have := Hm.out.1; omega)
      have cn := blk_num_at b11 k hk0 (by have := Hn.out.1; omega)
      go_still_tail 9, (by kernel_rfl)
      change wpList _ _ _ _ _ w3.drew
      clear cm cn
      replace b8 := b8.drew
      replace b9 := b9.drew
      replace b10 := b10.drew
      replace b11 := b11.drew
      replace b12 := b12.drew
      replace b13 := b13.drew
      replace b14 := b14.drew
      replace hown := pw_own_drewN hown 1
      replace hbel := below_drewN hbel 1
      change Below w1.heap.size w1 w3.drew at hbel
      change World.ownsRow w3.drew _ _ _ _ _ _ at hown
      generalize w3.drew = w3d at *
      have fz := b13.frozen k.toNat
      have hin : k.toNat < b.length := by have := hlen.out; omega
      have ck := blk_num_at b13 k hk0 (by omega)
      go_upto_region 13 with (fail)
      clear fz hin ck
      have hgs : World.grownBy w3d (w3d.setCell ⟨P13, k.toNat, none⟩ (.int .u8 (bits .and .u8 (rd m k) (rd n k)))) (some P13) := grown_setCell _ _ _ _
      replace hown := own_other hown hgs (.inr (fun h => own_ne hown b13 (by decide) h.symm))
      replace b8 := b8.grown hgs (by simp; omega)
      replace b9 := b9.grown hgs (by simp; omega)
      replace b10 := b10.grown hgs (by simp; omega)
      replace b11 := b11.grown hgs (by simp; omega)
      replace b12 := b12.grown hgs (by simp; omega)
      replace b14 := b14.grown hgs (by simp; omega)
      replace b13 := blk_num_set b13 k.toNat (bits .and .u8 (rd m k) (rd n k))
      replace hbel := below_set hbel (a := ⟨P13, k.toNat, none⟩) m13 (.int .u8 (bits .and .u8 (rd m k) (rd n k)))
      clear hgs
      generalize w3d.setCell ⟨P13, k.toNat, none⟩ (.int .u8 (bits .and .u8 (rd m k) (rd n k))) = w4 at *
      go_upto_region 13 with (fail)
      have cm := blk_num_at b10 k hk0 (by have := Hm.out.1; omega)
      have cn := blk_num_at b11 k hk0 (by have := Hn.out.1; omega)
      go_still_tail 9, (by kernel_rfl)
      change wpList _ _ _ _ _ w4.drew
      clear cm cn
      replace b8 := b8.drew
      replace b9 := b9.drew
      replace b10 := b10.drew
      replace b11 := b11.drew
      replace b12 := b12.drew
      replace b13 := b13.drew
      replace b14 := b14.drew
      replace hown := pw_own_drewN hown 1
      replace hbel := below_drewN hbel 1
      change Below w1.heap.size w1 w4.drew at hbel
      change World.ownsRow w4.drew _ _ _ _ _ _ at hown
      generalize w4.drew = w4d at *
      have fz := b14.frozen k.toNat
      have hin : k.toNat < o.length := by have := hlen.out; omega
      have ck := blk_num_at b14 k hk0 (by omega)
      go_upto_region 14 with (fail)
      clear fz hin ck
      have hgs : World.grownBy w4d (w4d.setCell ⟨P14, k.toNat, none⟩ (.int .u8 (bits .andNot .u8 (rd m k) (rd n k)))) (some P14) := grown_setCell _ _ _ _
      replace hown := own_other hown hgs (.inr (fun h => own_ne hown b14 (by decide) h.symm))
      replace b8 := b8.grown hgs (by simp; omega)
      replace b9 := b9.grown hgs (by simp; omega)
      replace b10 := b10.grown hgs (by simp; omega)
      replace b11 := b11.grown hgs (by simp; omega)
      replace b12 := b12.grown hgs (by simp; omega)
      replace b13 := b13.grown hgs (by simp; omega)
      replace b14 := blk_num_set b14 k.toNat (bits .andNot .u8 (rd m k) (rd n k))
      replace hbel := below_set hbel (a := ⟨P14, k.toNat, none⟩) m14 (.int .u8 (bits .andNot .u8 (rd m k) (rd n k)))
      clear hgs
      generalize w4d.setCell ⟨P14, k.toNat, none⟩ (.int .u8 (bits .andNot .u8 (rd m k) (rd n k))) = w5 at *
      have hlen2 : (e.set k.toNat (bits .or .u8 (rd m k) (rd n k))).length = 256 ∧ (b.set k.toNat (bits .and .u8 (rd m k) (rd n k))).length = 256 ∧ (o.set k.toNat (bits .andNot .u8 (rd m k) (rd n k))).length = 256 := by rw [List.length_set, List.length_set, List.length_set]; exact hlen.out
      have Hl2 := Lib.hid hlen2
      clear hlen2
      have he2 := Lib.hid (sets_step (f := fun x y => bits .or .u8 x y) hk0 hlt hlen.out.1 he.out)
      have hb2 := Lib.hid (sets_step (f := fun x y => bits .and .u8 x y) hk0 hlt hlen.out.2.1 hb.out)
      have ho2 := Lib.hid (sets_step (f := fun x y => bits .andNot .u8 x y) hk0 hlt hlen.out.2.2 ho.out)
      generalize e.set k.toNat (bits .or .u8 (rd m k) (rd n k)) = e2 at *
      generalize b.set k.toNat (bits .and .u8 (rd m k) (rd n k)) = bb2 at *
      generalize o.set k.toNat (bits .andNot .u8 (rd m k) (rd n k)) = o2 at *
      have hlm : mem.length ≤ k.toNat := by have := memK_len (fun b => rd m b == 1) k.toNat; rw [← hmem.out] at this; exact this
      have cm := blk_num_at b10 k hk0 (by have := Hm.out.1; omega)
      cases hp : (rd m k == 1)
      · go_wp2
        exact ⟨⟨k + 1, e2, bb2, o2, mem, rfl, by omega, by omega, Hl2, he2, hb2, ho2, (show mem = memK (fun b => rd m b == 1) (k + 1).toNat from by rw [memK_miss _ k hk0 hp, ← hmem.out]), hml, hbel, ⟨b8, b9, b10, b11⟩, b12, b13, b14, hown⟩, by simp [intOf]; omega⟩
      · go_wp2_with (at_builtin; go_loud (refine print_append_num (w0 := w1) (W := w5) w1.heap.size rfl (.tmp 103) (.tmp 106) 44 5 .u8 1 rfl Try.underlying44 info_u8 (by decide) _ mem k rfl rfl hown hbel hbel.size (by omega) ?_); intro v15 w6 hown2 hbel2 hg6 hat6)
        exact ⟨⟨k + 1, e2, bb2, o2, mem ++ [k], rfl, by omega, by omega, Hl2, he2, hb2, ho2, (show mem ++ [k] = memK (fun b => rd m b == 1) (k + 1).toNat from by rw [memK_hit _ k hk0 hp, ← hmem.out]), by simp; omega, hbel2, ⟨b8.grown hg6 (own_ne hown b8 (by decide)), b9.grown hg6 (own_ne hown b9 (by decide)), b10.grown hg6 (own_ne hown b10 (by decide)), b11.grown hg6 (own_ne hown b11 (by decide))⟩, b12.grown hg6 (own_ne hown b12 (by decide)), b13.grown hg6 (own_ne hown b13 (by decide)), b14.grown hg6 (own_ne hown b14 (by decide)), hown2⟩, by simp [intOf]; omega⟩
    · skip
      obtain rfl : k = 256 := by omega
      obtain ⟨A15, c15, rfl, hR15⟩ := own_reads hown
      have HR15 := Lib.hid hR15
      clear hR15 hown
      have hmp : ∀ b, 0 ≤ b → b < 256 → (rd m b == 1) = inSet [p0, p1, p2, p3] b := fun b h0 h1 => by rw [Hm.out.2 b h0 h1, one_01, Hp.out.2 b h0 h1]
      have hnq : ∀ b, 0 ≤ b → b < 256 → (rd n b == 1) = inSet [q0, q1, q2, q3] b := fun b h0 h1 => by rw [Hn.out.2 b h0 h1, one_01, Hq.out.2 b h0 h1]
      have heq : ∀ j, 0 ≤ j → j < 256 → (rd e j == 1) = (inSet [p0, p1, p2, p3] j || inSet [q0, q1, q2, q3] j) := fun j h0 h1 => by rw [he.out j h0 h1, ← hmp j h0 h1, ← hnq j h0 h1, Hm.out.2 j h0 h1, Hn.out.2 j h0 h1, or_01, one_01, one_01]
      have hbq : ∀ j, 0 ≤ j → j < 256 → (rd b j == 1) = (inSet [p0, p1, p2, p3] j && inSet [q0, q1, q2, q3] j) := fun j h0 h1 => by rw [hb.out j h0 h1, ← hmp j h0 h1, ← hnq j h0 h1, Hm.out.2 j h0 h1, Hn.out.2 j h0 h1, and_01, one_01, one_01]
      have hoq : ∀ j, 0 ≤ j → j < 256 → (rd o j == 1) = (inSet [p0, p1, p2, p3] j && !inSet [q0, q1, q2, q3] j) := fun j h0 h1 => by rw [ho.out j h0 h1, ← hmp j h0 h1, ← hnq j h0 h1, Hm.out.2 j h0 h1, Hn.out.2 j h0 h1, andNot_01, one_01, one_01]
      have hxp : inSet [p0, p1, p2, p3] x = (rd m x == 1) := (hmp x hx.1 (by omega)).symm
      have hmm : mem = memK (inSet [p0, p1, p2, p3]) 256 := hmem.out.trans (memK_congr 256 (fun b h0 h1 => hmp b h0 h1))
      have Heq := Lib.hid heq
      have Hbq := Lib.hid hbq
      have Hoq := Lib.hid hoq
      have Hxp := Lib.hid hxp
      have Hmm := Lib.hid hmm
      clear heq hbq hoq hxp hmm hmp hnq he hb ho
      have hlm : m.length = 256 := Hm.out.1
      have Hlm := Lib.hid hlm
      clear hlm
      have cx := blk_num_at b10 x hx.1 (by have := Hm.out.1; omega)
      have Hcx := Lib.hid cx
      clear cx
      have hx256 : x < 256 := by omega
      have hx0 : 0 ≤ x := hx.1
      have he4 := equal4_t4
      go_upto_region 16 with (fail)
      refine start_ (n := 46) (S := (fun w' => Below wr.heap.size wr w')) (ds := []) #[false, false, false, false, false, false, false, false, false, false, false, false, false, false, false, false, false, false, false, false, false, false, false, false, false, false, false, false, false, false, false, false, false, false, false, false, false, false, false, false, false, false, false, false, false, false] (by kernel_rfl) rfl rfl (Below.refl _ _ : Below wr.heap.size wr wr).drew (fun hHeld => ?_)
      refine pure_ (i := 1) (N := some 109) (v := ?_) (a' := ?_) #[false, true, false, false, false, false, false, false, false, false, false, false, false, false, false, false, false, false, false, false, false, false, false, false, false, false, false, false, false, false, false, false, false, false, false, false, false, false, false, false, false, false, false, false, false, false] rfl rfl (by kernel_rfl) (fun _ _ _ h => h) (Or.inl ⟨by rfl, ?_⟩) ?_ ?_
      rotate_left
      · intro w'
        go_simp
        with_reducible rfl
      rotate_left
      · simp only [Act.put, List.setIfInBounds_toArray, List.set_cons_zero, List.set_cons_succ, i64_w, i32_w]
        rfl
      refine pure_ (i := 3) (N := some 111) (v := ?_) (a' := ?_) #[false, true, false, true, false, false, false, false, false, false, false, false, false, false, false, false, false, false, false, false, false, false, false, false, false, false, false, false, false, false, false, false, false, false, false, false, false, false, false, false, false, false, false, false, false, false] rfl rfl (by kernel_rfl) (fun _ _ _ h => h) (Or.inl ⟨by rfl, ?_⟩) ?_ ?_
      rotate_left
      · intro w'
        go_simp
        with_reducible rfl
      rotate_left
      · simp only [Act.put, List.setIfInBounds_toArray, List.set_cons_zero, List.set_cons_succ, i64_w, i32_w]
        rfl
      refine pure_ (i := 4) (N := some 112) (v := ?_) (a' := ?_) #[false, true, false, true, true, false, false, false, false, false, false, false, false, false, false, false, false, false, false, false, false, false, false, false, false, false, false, false, false, false, false, false, false, false, false, false, false, false, false, false, false, false, false, false, false, false] rfl rfl (by kernel_rfl) (fun _ _ _ h => h) (Or.inl ⟨by rfl, ?_⟩) ?_ ?_
      rotate_left
      · intro w'
        go_simp
        with_reducible rfl
      rotate_left
      · simp only [Act.put, List.setIfInBounds_toArray, List.set_cons_zero, List.set_cons_succ, i64_w, i32_w]
        rfl
      refine take_ (i := 0) (N := some 108) (v := ?_) (a' := ?_) #[true, true, false, true, true, false, false, false, false, false, false, false, false, false, false, false, false, false, false, false, false, false, false, false, false, false, false, false, false, false, false, false, false, false, false, false, false, false, false, false, false, false, false, false, false, false] rfl rfl (by kernel_rfl) (fun _ _ _ h => h) (Or.inl ⟨by rfl, ?_⟩) hHeld ?_ ?_
      rotate_left
      · rintro w' s1
        refine exec_load_blk 24 (.tmp 8) ?_ P8 ?_ 24 (b8.after s1) _ Try.underlying24 rfl 4 size_B rfl
        · rfl
        · rfl
      rotate_left
      · simp only [Act.put, List.setIfInBounds_toArray, List.set_cons_zero, List.set_cons_succ, i64_w, i32_w]
        rfl
      refine take_ (i := 5) (N := some 113) (v := ?_) (a' := ?_) #[true, true, false, true, true, true, false, false, false, false, false, false, false, false, false, false, false, false, false, false, false, false, false, false, false, false, false, false, false, false, false, false, false, false, false, false, false, false, false, false, false, false, false, false, false, false] rfl rfl (by kernel_rfl) (fun _ _ _ h => h) (Or.inl ⟨by rfl, ?_⟩) hHeld ?_ ?_
      rotate_left
      · rintro w' s1
        have cx := pw_cell_below s1 Hcx.out
        go_simp
        with_reducible rfl
      rotate_left
      · simp only [Act.put, List.setIfInBounds_toArray, List.set_cons_zero, List.set_cons_succ, i64_w, i32_w]
        rfl
      refine pure_ (i := 6) (N := some 114) (v := ?_) (a' := ?_) #[true, true, false, true, true, true, true, false, false, false, false, false, false, false, false, false, false, false, false, false, false, false, false, false, false, false, false, false, false, false, false, false, false, false, false, false, false, false, false, false, false, false, false, false, false, false] rfl rfl (by kernel_rfl) (fun _ _ _ h => h) (Or.inl ⟨by rfl, ?_⟩) ?_ ?_
      rotate_left
      · intro w'
        go_simp
        with_reducible rfl
      rotate_left
      · simp only [Act.put, List.setIfInBounds_toArray, List.set_cons_zero, List.set_cons_succ, i64_w, i32_w]
        rfl
      refine one_ (i := 2) (N := some 110) #[true, true, true, true, true, true, true, false, false, false, false, false, false, false, false, false, false, false, false, false, false, false, false, false, false, false, false, false, false, false, false, false, false, false, false, false, false, false, false, false, false, false, false, false, false, false] rfl rfl (by kernel_rfl) (by decide) (fun K hK => ?_)
      refine goes_ Try.func27 (by kernel_rfl) rfl #[set4 p0 p1 p2 p3, .int .u8 x] (by rfl) rfl rfl (by first | rfl | (simp only [List.map_toArray, List.map_cons, List.map_nil]; done) | (simp only [List.map_toArray, List.map_cons, List.map_nil]; rfl)) ?_
      refine (has_is _ hx.1 hx.2 Hxp.out).mono ?_
      rintro _ wz ⟨rfl, hbc⟩
      refine ⟨_, rfl, ?_⟩
      refine hK.out _ _ (below_after hHeld hbc) (fun hHeld => ?_)
      clear hK K
      refine norm_ (a' := ?_) ?_ ?_
      rotate_left
      · show Act.put _ (some 110) _ = _
        simp only [Act.put, List.setIfInBounds_toArray, List.set_cons_zero, List.set_cons_succ, i64_w, i32_w]
        rfl
      refine pure_ (i := 7) (N := some 115) (v := ?_) (a' := ?_) #[true, true, true, true, true, true, true, true, false, false, false, false, false, false, false, false, false, false, false, false, false, false, false, false, false, false, false, false, false, false, false, false, false, false, false, false, false, false, false, false, false, false, false, false, false, false] rfl rfl (by kernel_rfl) (fun _ _ _ h => h) (Or.inl ⟨by rfl, ?_⟩) ?_ ?_
      rotate_left
      · intro w'
        go_simp
        with_reducible rfl
      rotate_left
      · simp only [Act.put, List.setIfInBounds_toArray, List.set_cons_zero, List.set_cons_succ, i64_w, i32_w]
        rfl
      refine pure_ (i := 8) (N := some 116) (v := ?_) (a' := ?_) #[true, true, true, true, true, true, true, true, true, false, false, false, false, false, false, false, false, false, false, false, false, false, false, false, false, false, false, false, false, false, false, false, false, false, false, false, false, false, false, false, false, false, false, false, false, false] rfl rfl (by kernel_rfl) (fun _ _ _ h => h) (Or.inl ⟨by rfl, ?_⟩) ?_ ?_
      rotate_left
      · intro w'
        go_simp
        with_reducible rfl
      rotate_left
      · simp only [Act.put, List.setIfInBounds_toArray, List.set_cons_zero, List.set_cons_succ, i64_w, i32_w]
        rfl
      refine take_ (i := 9) (N := some 117) (v := ?_) (a' := ?_) #[true, true, true, true, true, true, true, true, true, true, false, false, false, false, false, false, false, false, false, false, false, false, false, false, false, false, false, false, false, false, false, false, false, false, false, false, false, false, false, false, false, false, false, false, false, false] rfl rfl (by kernel_rfl) (fun _ _ _ h => h) (Or.inl ⟨by rfl, ?_⟩) hHeld ?_ ?_
      rotate_left
      · rintro w' s1
        refine exec_load_blk 24 (.tmp 8) ?_ P8 ?_ 24 (b8.after s1) _ Try.underlying24 rfl 4 size_B rfl
        · rfl
        · rfl
      rotate_left
      · simp only [Act.put, List.setIfInBounds_toArray, List.set_cons_zero, List.set_cons_succ, i64_w, i32_w]
        rfl
      refine take_ (i := 10) (N := some 118) (v := ?_) (a' := ?_) #[true, true, true, true, true, true, true, true, true, true, true, false, false, false, false, false, false, false, false, false, false, false, false, false, false, false, false, false, false, false, false, false, false, false, false, false, false, false, false, false, false, false, false, false, false, false] rfl rfl (by kernel_rfl) (fun _ _ _ h => h) (Or.inl ⟨by rfl, ?_⟩) hHeld ?_ ?_
      rotate_left
      · rintro w' s1
        refine exec_load_blk 24 (.tmp 9) ?_ P9 ?_ 24 (b9.after s1) _ Try.underlying24 rfl 4 size_B rfl
        · rfl
        · rfl
      rotate_left
      · simp only [Act.put, List.setIfInBounds_toArray, List.set_cons_zero, List.set_cons_succ, i64_w, i32_w]
        rfl
      refine take_ (i := 13) (N := some 121) (v := ?_) (a' := ?_) #[true, true, true, true, true, true, true, true, true, true, true, false, false, true, false, false, false, false, false, false, false, false, false, false, false, false, false, false, false, false, false, false, false, false, false, false, false, false, false, false, false, false, false, false, false, false] rfl rfl (by kernel_rfl) (fun _ _ _ h => h) (Or.inl ⟨by rfl, ?_⟩) hHeld ?_ ?_
      rotate_left
      · rintro w' s1
        refine exec_load_blk 26 (.tmp 12) ?_ P12 ?_ 26 (b12.after s1) _ Try.underlying26 rfl 256 size_S (by rw [nums_size]; exact hlen.out.1)
        · rfl
        · rfl
      rotate_left
      · simp only [Act.put, List.setIfInBounds_toArray, List.set_cons_zero, List.set_cons_succ, i64_w, i32_w]
        rfl
      refine one_ (i := 11) (N := some 119) #[true, true, true, true, true, true, true, true, true, true, true, true, false, true, false, false, false, false, false, false, false, false, false, false, false, false, false, false, false, false, false, false, false, false, false, false, false, false, false, false, false, false, false, false, false, false] rfl rfl (by kernel_rfl) (by decide) (fun K hK => ?_)
      refine lits2_ (by rfl) rfl _ _ rfl rfl rfl ?_
      intro G11 W11 B11 hbc
      refine hK.out _ _ (below_after hHeld hbc) (fun hHeld => ?_)
      clear hK K
      refine norm_ (a' := ?_) ?_ ?_
      rotate_left
      · show Act.put _ (some 119) _ = _
        simp only [Act.put, List.setIfInBounds_toArray, List.set_cons_zero, List.set_cons_succ, i64_w, i32_w]
        rfl
      refine one_ (i := 12) (N := some 120) #[true, true, true, true, true, true, true, true, true, true, true, true, true, true, false, false, false, false, false, false, false, false, false, false, false, false, false, false, false, false, false, false, false, false, false, false, false, false, false, false, false, false, false, false, false, false] rfl rfl (by kernel_rfl) (by decide) (fun K hK => ?_)
      refine goes_ Try.func26 (by kernel_rfl) rfl #[.slice (some ⟨G11, 0, none⟩) 2 2] (by rfl) rfl rfl (by first | rfl | (simp only [List.map_toArray, List.map_cons, List.map_nil]; done) | (simp only [List.map_toArray, List.map_cons, List.map_nil]; rfl)) ?_
      refine (union_two Hp.out.1 Hq.out.1 B11).mono ?_
      rintro _ wz ⟨u0, u1, u2, u3, hu, rfl, hbc⟩
      refine ⟨_, rfl, ?_⟩
      have Hu := Lib.hid hu
      clear hu B11
      refine hK.out _ _ (below_after hHeld hbc) (fun hHeld => ?_)
      clear hK K
      refine norm_ (a' := ?_) ?_ ?_
      rotate_left
      · show Act.put _ (some 120) _ = _
        simp only [Act.put, List.setIfInBounds_toArray, List.set_cons_zero, List.set_cons_succ, i64_w, i32_w]
        rfl
      refine one_ (i := 14) (N := some 122) #[true, true, true, true, true, true, true, true, true, true, true, true, true, true, true, false, false, false, false, false, false, false, false, false, false, false, false, false, false, false, false, false, false, false, false, false, false, false, false, false, false, false, false, false, false, false] rfl rfl (by kernel_rfl) (by decide) (fun K hK => ?_)
      refine goes_ Try.func31 (by kernel_rfl) rfl #[.agg (nums .u8 e).toArray] (by rfl) rfl rfl (by first | rfl | (simp only [List.map_toArray, List.map_cons, List.map_nil]; done) | (simp only [List.map_toArray, List.map_cons, List.map_nil]; rfl)) ?_
      refine ((rwords_any e _ hlen.out.1).mono (fun _ _ h => such_is Hu.out.1 (fun b h0 h1 => by rw [Heq.out b h0 h1, Hu.out.2 b h0 h1]) h)).mono ?_
      rintro _ wz ⟨rfl, hbc⟩
      refine ⟨_, rfl, ?_⟩
      refine hK.out _ _ (below_after hHeld hbc) (fun hHeld => ?_)
      clear hK K
      refine norm_ (a' := ?_) ?_ ?_
      rotate_left
      · show Act.put _ (some 122) _ = _
        simp only [Act.put, List.setIfInBounds_toArray, List.set_cons_zero, List.set_cons_succ, i64_w, i32_w]
        rfl
      refine pure_ (i := 15) (N := some 123) (v := ?_) (a' := ?_) #[true, true, true, true, true, true, true, true, true, true, true, true, true, true, true, true, false, false, false, false, false, false, false, false, false, false, false, false, false, false, false, false, false, false, false, false, false, false, false, false, false, false, false, false, false, false] rfl rfl (by kernel_rfl) (fun _ _ _ h => h) (Or.inl ⟨by rfl, ?_⟩) ?_ ?_
      rotate_left
      · intro w'
        go_simp
        with_reducible rfl
      rotate_left
      · simp only [Act.put, List.setIfInBounds_toArray, List.set_cons_zero, List.set_cons_succ, i64_w, i32_w]
        rfl
      refine pure_ (i := 16) (N := some 124) (v := ?_) (a' := ?_) #[true, true, true, true, true, true, true, true, true, true, true, true, true, true, true, true, true, false, false, false, false, false, false, false, false, false, false, false, false, false, false, false, false, false, false, false, false, false, false, false, false, false, false, false, false, false] rfl rfl (by kernel_rfl) (fun _ _ _ h => h) (Or.inl ⟨by rfl, ?_⟩) ?_ ?_
      rotate_left
      · intro w'
        go_simp
        with_reducible rfl
      rotate_left
      · simp only [Act.put, List.setIfInBounds_toArray, List.set_cons_zero, List.set_cons_succ, i64_w, i32_w]
        rfl
      refine pure_ (i := 17) (N := some 125) (v := ?_) (a' := ?_) #[true, true, true, true, true, true, true, true, true, true, true, true, true, true, true, true, true, true, false, false, false, false, false, false, false, false, false, false, false, false, false, false, false, false, false, false, false, false, false, false, false, false, false, false, false, false] rfl rfl (by kernel_rfl) (fun _ _ _ h => h) (Or.inl ⟨by rfl, ?_⟩) ?_ ?_
      rotate_left
      · intro w'
        go_simp
        with_reducible rfl
      rotate_left
      · simp only [Act.put, List.setIfInBounds_toArray, List.set_cons_zero, List.set_cons_succ, i64_w, i32_w]
        rfl
      refine pure_ (i := 19) (N := some 127) (v := ?_) (a' := ?_) #[true, true, true, true, true, true, true, true, true, true, true, true, true, true, true, true, true, true, false, true, false, false, false, false, false, false, false, false, false, false, false, false, false, false, false, false, false, false, false, false, false, false, false, false, false, false] rfl rfl (by kernel_rfl) (fun _ _ _ h => h) (Or.inl ⟨by rfl, ?_⟩) ?_ ?_
      rotate_left
      · intro w'
        go_simp
        with_reducible rfl
      rotate_left
      · simp only [Act.put, List.setIfInBounds_toArray, List.set_cons_zero, List.set_cons_succ, i64_w, i32_w]
        rfl
      refine one_ (i := 18) (N := some 126) #[true, true, true, true, true, true, true, true, true, true, true, true, true, true, true, true, true, true, true, true, false, false, false, false, false, false, false, false, false, false, false, false, false, false, false, false, false, false, false, false, false, false, false, false, false, false] rfl rfl (by kernel_rfl) (by decide) (fun K hK => ?_)
      refine goes_ Try.func26 (by kernel_rfl) rfl #[.slice none 0 0] (by rfl) rfl rfl (by first | rfl | (simp only [List.map_toArray, List.map_cons, List.map_nil]; done) | (simp only [List.map_toArray, List.map_cons, List.map_nil]; rfl)) ?_
      refine (union_nil _).mono ?_
      rintro _ wz ⟨rfl, hbc⟩
      refine ⟨_, rfl, ?_⟩
      refine hK.out _ _ (below_after hHeld hbc) (fun hHeld => ?_)
      clear hK K
      refine norm_ (a' := ?_) ?_ ?_
      rotate_left
      · show Act.put _ (some 126) _ = _
        simp only [Act.put, List.setIfInBounds_toArray, List.set_cons_zero, List.set_cons_succ, i64_w, i32_w]
        rfl
      refine pure_ (i := 20) (N := some 128) (v := ?_) (a' := ?_) #[true, true, true, true, true, true, true, true, true, true, true, true, true, true, true, true, true, true, true, true, true, false, false, false, false, false, false, false, false, false, false, false, false, false, false, false, false, false, false, false, false, false, false, false, false, false] rfl rfl (by kernel_rfl) (fun _ _ _ h => h) (Or.inl ⟨by rfl, ?_⟩) ?_ ?_
      rotate_left
      · intro w'
        go_simp
        with_reducible rfl
      rotate_left
      · simp only [Act.put, List.setIfInBounds_toArray, List.set_cons_zero, List.set_cons_succ, i64_w, i32_w]
        rfl
      refine pure_ (i := 21) (N := some 129) (v := ?_) (a' := ?_) #[true, true, true, true, true, true, true, true, true, true, true, true, true, true, true, true, true, true, true, true, true, true, false, false, false, false, false, false, false, false, false, false, false, false, false, false, false, false, false, false, false, false, false, false, false, false] rfl rfl (by kernel_rfl) (fun _ _ _ h => h) (Or.inl ⟨by rfl, ?_⟩) ?_ ?_
      rotate_left
      · intro w'
        go_simp
        with_reducible rfl
      rotate_left
      · simp only [Act.put, List.setIfInBounds_toArray, List.set_cons_zero, List.set_cons_succ, i64_w, i32_w]
        rfl
      refine pure_ (i := 22) (N := some 130) (v := ?_) (a' := ?_) #[true, true, true, true, true, true, true, true, true, true, true, true, true, true, true, true, true, true, true, true, true, true, true, false, false, false, false, false, false, false, false, false, false, false, false, false, false, false, false, false, false, false, false, false, false, false] rfl rfl (by kernel_rfl) (fun _ _ _ h => h) (Or.inl ⟨by rfl, ?_⟩) ?_ ?_
      rotate_left
      · intro w'
        go_simp
        with_reducible rfl
      rotate_left
      · simp only [Act.put, List.setIfInBounds_toArray, List.set_cons_zero, List.set_cons_succ, i64_w, i32_w]
        rfl
      refine take_ (i := 23) (N := some 131) (v := ?_) (a' := ?_) #[true, true, true, true, true, true, true, true, true, true, true, true, true, true, true, true, true, true, true, true, true, true, true, true, false, false, false, false, false, false, false, false, false, false, false, false, false, false, false, false, false, false, false, false, false, false] rfl rfl (by kernel_rfl) (fun _ _ _ h => h) (Or.inl ⟨by rfl, ?_⟩) hHeld ?_ ?_
      rotate_left
      · rintro w' s1
        refine exec_load_blk 24 (.tmp 8) ?_ P8 ?_ 24 (b8.after s1) _ Try.underlying24 rfl 4 size_B rfl
        · rfl
        · rfl
      rotate_left
      · simp only [Act.put, List.setIfInBounds_toArray, List.set_cons_zero, List.set_cons_succ, i64_w, i32_w]
        rfl
      refine take_ (i := 24) (N := some 132) (v := ?_) (a' := ?_) #[true, true, true, true, true, true, true, true, true, true, true, true, true, true, true, true, true, true, true, true, true, true, true, true, true, false, false, false, false, false, false, false, false, false, false, false, false, false, false, false, false, false, false, false, false, false] rfl rfl (by kernel_rfl) (fun _ _ _ h => h) (Or.inl ⟨by rfl, ?_⟩) hHeld ?_ ?_
      rotate_left
      · rintro w' s1
        refine exec_load_blk 24 (.tmp 9) ?_ P9 ?_ 24 (b9.after s1) _ Try.underlying24 rfl 4 size_B rfl
        · rfl
        · rfl
      rotate_left
      · simp only [Act.put, List.setIfInBounds_toArray, List.set_cons_zero, List.set_cons_succ, i64_w, i32_w]
        rfl
      refine take_ (i := 26) (N := some 134) (v := ?_) (a' := ?_) #[true, true, true, true, true, true, true, true, true, true, true, true, true, true, true, true, true, true, true, true, true, true, true, true, true, false, true, false, false, false, false, false, false, false, false, false, false, false, false, false, false, false, false, false, false, false] rfl rfl (by kernel_rfl) (fun _ _ _ h => h) (Or.inl ⟨by rfl, ?_⟩) hHeld ?_ ?_
      rotate_left
      · rintro w' s1
        refine exec_load_blk 26 (.tmp 13) ?_ P13 ?_ 26 (b13.after s1) _ Try.underlying26 rfl 256 size_S (by rw [nums_size]; exact hlen.out.2.1)
        · rfl
        · rfl
      rotate_left
      · simp only [Act.put, List.setIfInBounds_toArray, List.set_cons_zero, List.set_cons_succ, i64_w, i32_w]
        rfl
      refine one_ (i := 25) (N := some 133) #[true, true, true, true, true, true, true, true, true, true, true, true, true, true, true, true, true, true, true, true, true, true, true, true, true, true, true, false, false, false, false, false, false, false, false, false, false, false, false, false, false, false, false, false, false, false] rfl rfl (by kernel_rfl) (by decide) (fun K hK => ?_)
      refine goes_ Try.func24 (by kernel_rfl) rfl #[set4 p0 p1 p2 p3, set4 q0 q1 q2 q3] (by rfl) rfl rfl (by first | rfl | (simp only [List.map_toArray, List.map_cons, List.map_nil]; done) | (simp only [List.map_toArray, List.map_cons, List.map_nil]; rfl)) ?_
      refine (cross_such _ Hp.out.1 Hq.out.1).mono ?_
      rintro _ wz ⟨v0, v1, v2, v3, hv, rfl, hbc⟩
      refine ⟨_, rfl, ?_⟩
      have Hv := Lib.hid hv
      clear hv
      refine hK.out _ _ (below_after hHeld hbc) (fun hHeld => ?_)
      clear hK K
      refine norm_ (a' := ?_) ?_ ?_
      rotate_left
      · show Act.put _ (some 133) _ = _
        simp only [Act.put, List.setIfInBounds_toArray, List.set_cons_zero, List.set_cons_succ, i64_w, i32_w]
        rfl
      refine one_ (i := 27) (N := some 135) #[true, true, true, true, true, true, true, true, true, true, true, true, true, true, true, true, true, true, true, true, true, true, true, true, true, true, true, true, false, false, false, false, false, false, false, false, false, false, false, false, false, false, false, false, false, false] rfl rfl (by kernel_rfl) (by decide) (fun K hK => ?_)
      refine goes_ Try.func31 (by kernel_rfl) rfl #[.agg (nums .u8 b).toArray] (by rfl) rfl rfl (by first | rfl | (simp only [List.map_toArray, List.map_cons, List.map_nil]; done) | (simp only [List.map_toArray, List.map_cons, List.map_nil]; rfl)) ?_
      refine ((rwords_any b _ hlen.out.2.1).mono (fun _ _ h => such_is Hv.out.1 (fun b h0 h1 => by rw [Hbq.out b h0 h1, Hv.out.2 b h0 h1]) h)).mono ?_
      rintro _ wz ⟨rfl, hbc⟩
      refine ⟨_, rfl, ?_⟩
      refine hK.out _ _ (below_after hHeld hbc) (fun hHeld => ?_)
      clear hK K
      refine norm_ (a' := ?_) ?_ ?_
      rotate_left
      · show Act.put _ (some 135) _ = _
        simp only [Act.put, List.setIfInBounds_toArray, List.set_cons_zero, List.set_cons_succ, i64_w, i32_w]
        rfl
      refine pure_ (i := 28) (N := some 136) (v := ?_) (a' := ?_) #[true, true, true, true, true, true, true, true, true, true, true, true, true, true, true, true, true, true, true, true, true, true, true, true, true, true, true, true, true, false, false, false, false, false, false, false, false, false, false, false, false, false, false, false, false, false] rfl rfl (by kernel_rfl) (fun _ _ _ h => h) (Or.inl ⟨by rfl, ?_⟩) ?_ ?_
      rotate_left
      · intro w'
        go_simp
        with_reducible rfl
      rotate_left
      · simp only [Act.put, List.setIfInBounds_toArray, List.set_cons_zero, List.set_cons_succ, i64_w, i32_w]
        rfl
      refine pure_ (i := 29) (N := some 137) (v := ?_) (a' := ?_) #[true, true, true, true, true, true, true, true, true, true, true, true, true, true, true, true, true, true, true, true, true, true, true, true, true, true, true, true, true, true, false, false, false, false, false, false, false, false, false, false, false, false, false, false, false, false] rfl rfl (by kernel_rfl) (fun _ _ _ h => h) (Or.inl ⟨by rfl, ?_⟩) ?_ ?_
      rotate_left
      · intro w'
        go_simp
        with_reducible rfl
      rotate_left
      · simp only [Act.put, List.setIfInBounds_toArray, List.set_cons_zero, List.set_cons_succ, i64_w, i32_w]
        rfl
      refine pure_ (i := 30) (N := some 138) (v := ?_) (a' := ?_) #[true, true, true, true, true, true, true, true, true, true, true, true, true, true, true, true, true, true, true, true, true, true, true, true, true, true, true, true, true, true, true, false, false, false, false, false, false, false, false, false, false, false, false, false, false, false] rfl rfl (by kernel_rfl) (fun _ _ _ h => h) (Or.inl ⟨by rfl, ?_⟩) ?_ ?_
      rotate_left
      · intro w'
        go_simp
        with_reducible rfl
      rotate_left
      · simp only [Act.put, List.setIfInBounds_toArray, List.set_cons_zero, List.set_cons_succ, i64_w, i32_w]
        rfl
      refine take_ (i := 31) (N := some 139) (v := ?_) (a' := ?_) #[true, true, true, true, true, true, true, true, true, true, true, true, true, true, true, true, true, true, true, true, true, true, true, true, true, true, true, true, true, true, true, true, false, false, false, false, false, false, false, false, false, false, false, false, false, false] rfl rfl (by kernel_rfl) (fun _ _ _ h => h) (Or.inl ⟨by rfl, ?_⟩) hHeld ?_ ?_
      rotate_left
      · rintro w' s1
        refine exec_load_blk 24 (.tmp 8) ?_ P8 ?_ 24 (b8.after s1) _ Try.underlying24 rfl 4 size_B rfl
        · rfl
        · rfl
      rotate_left
      · simp only [Act.put, List.setIfInBounds_toArray, List.set_cons_zero, List.set_cons_succ, i64_w, i32_w]
        rfl
      refine take_ (i := 32) (N := some 140) (v := ?_) (a' := ?_) #[true, true, true, true, true, true, true, true, true, true, true, true, true, true, true, true, true, true, true, true, true, true, true, true, true, true, true, true, true, true, true, true, true, false, false, false, false, false, false, false, false, false, false, false, false, false] rfl rfl (by kernel_rfl) (fun _ _ _ h => h) (Or.inl ⟨by rfl, ?_⟩) hHeld ?_ ?_
      rotate_left
      · rintro w' s1
        refine exec_load_blk 24 (.tmp 9) ?_ P9 ?_ 24 (b9.after s1) _ Try.underlying24 rfl 4 size_B rfl
        · rfl
        · rfl
      rotate_left
      · simp only [Act.put, List.setIfInBounds_toArray, List.set_cons_zero, List.set_cons_succ, i64_w, i32_w]
        rfl
      refine take_ (i := 34) (N := some 142) (v := ?_) (a' := ?_) #[true, true, true, true, true, true, true, true, true, true, true, true, true, true, true, true, true, true, true, true, true, true, true, true, true, true, true, true, true, true, true, true, true, false, true, false, false, false, false, false, false, false, false, false, false, false] rfl rfl (by kernel_rfl) (fun _ _ _ h => h) (Or.inl ⟨by rfl, ?_⟩) hHeld ?_ ?_
      rotate_left
      · rintro w' s1
        refine exec_load_blk 26 (.tmp 14) ?_ P14 ?_ 26 (b14.after s1) _ Try.underlying26 rfl 256 size_S (by rw [nums_size]; exact hlen.out.2.2)
        · rfl
        · rfl
      rotate_left
      · simp only [Act.put, List.setIfInBounds_toArray, List.set_cons_zero, List.set_cons_succ, i64_w, i32_w]
        rfl
      refine one_ (i := 33) (N := some 141) #[true, true, true, true, true, true, true, true, true, true, true, true, true, true, true, true, true, true, true, true, true, true, true, true, true, true, true, true, true, true, true, true, true, true, true, false, false, false, false, false, false, false, false, false, false, false] rfl rfl (by kernel_rfl) (by decide) (fun K hK => ?_)
      refine goes_ Try.func25 (by kernel_rfl) rfl #[set4 p0 p1 p2 p3, set4 q0 q1 q2 q3] (by rfl) rfl rfl (by first | rfl | (simp only [List.map_toArray, List.map_cons, List.map_nil]; done) | (simp only [List.map_toArray, List.map_cons, List.map_nil]; rfl)) ?_
      refine (minus_such _ Hp.out.1 Hq.out.1).mono ?_
      rintro _ wz ⟨y0, y1, y2, y3, hy, rfl, hbc⟩
      refine ⟨_, rfl, ?_⟩
      have Hy := Lib.hid hy
      clear hy
      refine hK.out _ _ (below_after hHeld hbc) (fun hHeld => ?_)
      clear hK K
      refine norm_ (a' := ?_) ?_ ?_
      rotate_left
      · show Act.put _ (some 141) _ = _
        simp only [Act.put, List.setIfInBounds_toArray, List.set_cons_zero, List.set_cons_succ, i64_w, i32_w]
        rfl
      refine one_ (i := 35) (N := some 143) #[true, true, true, true, true, true, true, true, true, true, true, true, true, true, true, true, true, true, true, true, true, true, true, true, true, true, true, true, true, true, true, true, true, true, true, true, false, false, false, false, false, false, false, false, false, false] rfl rfl (by kernel_rfl) (by decide) (fun K hK => ?_)
      refine goes_ Try.func31 (by kernel_rfl) rfl #[.agg (nums .u8 o).toArray] (by rfl) rfl rfl (by first | rfl | (simp only [List.map_toArray, List.map_cons, List.map_nil]; done) | (simp only [List.map_toArray, List.map_cons, List.map_nil]; rfl)) ?_
      refine ((rwords_any o _ hlen.out.2.2).mono (fun _ _ h => such_is Hy.out.1 (fun b h0 h1 => by rw [Hoq.out b h0 h1, Hy.out.2 b h0 h1]) h)).mono ?_
      rintro _ wz ⟨rfl, hbc⟩
      refine ⟨_, rfl, ?_⟩
      refine hK.out _ _ (below_after hHeld hbc) (fun hHeld => ?_)
      clear hK K
      refine norm_ (a' := ?_) ?_ ?_
      rotate_left
      · show Act.put _ (some 143) _ = _
        simp only [Act.put, List.setIfInBounds_toArray, List.set_cons_zero, List.set_cons_succ, i64_w, i32_w]
        rfl
      refine pure_ (i := 36) (N := some 144) (v := ?_) (a' := ?_) #[true, true, true, true, true, true, true, true, true, true, true, true, true, true, true, true, true, true, true, true, true, true, true, true, true, true, true, true, true, true, true, true, true, true, true, true, true, false, false, false, false, false, false, false, false, false] rfl rfl (by kernel_rfl) (fun _ _ _ h => h) (Or.inl ⟨by rfl, ?_⟩) ?_ ?_
      rotate_left
      · intro w'
        go_simp
        with_reducible rfl
      rotate_left
      · simp only [Act.put, List.setIfInBounds_toArray, List.set_cons_zero, List.set_cons_succ, i64_w, i32_w]
        rfl
      refine pure_ (i := 37) (N := some 145) (v := ?_) (a' := ?_) #[true, true, true, true, true, true, true, true, true, true, true, true, true, true, true, true, true, true, true, true, true, true, true, true, true, true, true, true, true, true, true, true, true, true, true, true, true, true, false, false, false, false, false, false, false, false] rfl rfl (by kernel_rfl) (fun _ _ _ h => h) (Or.inl ⟨by rfl, ?_⟩) ?_ ?_
      rotate_left
      · intro w'
        go_simp
        with_reducible rfl
      rotate_left
      · simp only [Act.put, List.setIfInBounds_toArray, List.set_cons_zero, List.set_cons_succ, i64_w, i32_w]
        rfl
      refine pure_ (i := 38) (N := some 146) (v := ?_) (a' := ?_) #[true, true, true, true, true, true, true, true, true, true, true, true, true, true, true, true, true, true, true, true, true, true, true, true, true, true, true, true, true, true, true, true, true, true, true, true, true, true, true, false, false, false, false, false, false, false] rfl rfl (by kernel_rfl) (fun _ _ _ h => h) (Or.inl ⟨by rfl, ?_⟩) ?_ ?_
      rotate_left
      · intro w'
        go_simp
        with_reducible rfl
      rotate_left
      · simp only [Act.put, List.setIfInBounds_toArray, List.set_cons_zero, List.set_cons_succ, i64_w, i32_w]
        rfl
      refine pure_ (i := 41) (N := some 149) (v := ?_) (a' := ?_) #[true, true, true, true, true, true, true, true, true, true, true, true, true, true, true, true, true, true, true, true, true, true, true, true, true, true, true, true, true, true, true, true, true, true, true, true, true, true, true, false, false, true, false, false, false, false] rfl rfl (by kernel_rfl) (fun _ _ _ h => h) (Or.inl ⟨by rfl, ?_⟩) ?_ ?_
      rotate_left
      · intro w'
        go_simp
        with_reducible rfl
      rotate_left
      · simp only [Act.put, List.setIfInBounds_toArray, List.set_cons_zero, List.set_cons_succ, i64_w, i32_w]
        rfl
      refine take_ (i := 39) (N := some 147) (v := ?_) (a' := ?_) #[true, true, true, true, true, true, true, true, true, true, true, true, true, true, true, true, true, true, true, true, true, true, true, true, true, true, true, true, true, true, true, true, true, true, true, true, true, true, true, true, false, true, false, false, false, false] rfl rfl (by kernel_rfl) (fun _ _ _ h => h) (Or.inl ⟨by rfl, ?_⟩) hHeld ?_ ?_
      rotate_left
      · rintro w' s1
        refine exec_load_blk 24 (.tmp 8) ?_ P8 ?_ 24 (b8.after s1) _ Try.underlying24 rfl 4 size_B rfl
        · rfl
        · rfl
      rotate_left
      · simp only [Act.put, List.setIfInBounds_toArray, List.set_cons_zero, List.set_cons_succ, i64_w, i32_w]
        rfl
      refine take_ (i := 42) (N := some 150) (v := ?_) (a' := ?_) #[true, true, true, true, true, true, true, true, true, true, true, true, true, true, true, true, true, true, true, true, true, true, true, true, true, true, true, true, true, true, true, true, true, true, true, true, true, true, true, true, false, true, true, false, false, false] rfl rfl (by kernel_rfl) (fun _ _ _ h => h) (Or.inl ⟨by rfl, ?_⟩) hHeld ?_ ?_
      rotate_left
      · rintro w' s1
        refine exec_text (src := 44) (dst := 9) (x := .tmp 149) (A := A15) (c := c15) (xs := mem) ?_ ?_ Try.underlying44 Try.underlying5 Try.underlying9 (HR15.out.below s1)
        · rfl
        · rfl
      rotate_left
      · simp only [Act.put, List.setIfInBounds_toArray, List.set_cons_zero, List.set_cons_succ, i64_w, i32_w]
        rfl
      refine one_ (i := 40) (N := some 148) #[true, true, true, true, true, true, true, true, true, true, true, true, true, true, true, true, true, true, true, true, true, true, true, true, true, true, true, true, true, true, true, true, true, true, true, true, true, true, true, true, true, true, true, false, false, false] rfl rfl (by kernel_rfl) (by decide) (fun K hK => ?_)
      refine goes_ Try.func28 (by kernel_rfl) rfl #[set4 p0 p1 p2 p3] (by rfl) rfl rfl (by first | rfl | (simp only [List.map_toArray, List.map_cons, List.map_nil]; done) | (simp only [List.map_toArray, List.map_cons, List.map_nil]; rfl)) ?_
      refine (members_is _ Hmm.out.symm).mono ?_
      rintro _ wz ⟨rfl, hbc⟩
      refine ⟨_, rfl, ?_⟩
      refine hK.out _ _ (below_after hHeld hbc) (fun hHeld => ?_)
      clear hK K
      refine norm_ (a' := ?_) ?_ ?_
      rotate_left
      · show Act.put _ (some 148) _ = _
        simp only [Act.put, List.setIfInBounds_toArray, List.set_cons_zero, List.set_cons_succ, i64_w, i32_w]
        rfl
      refine pure_ (i := 43) (N := some 151) (v := ?_) (a' := ?_) #[true, true, true, true, true, true, true, true, true, true, true, true, true, true, true, true, true, true, true, true, true, true, true, true, true, true, true, true, true, true, true, true, true, true, true, true, true, true, true, true, true, true, true, true, false, false] rfl rfl (by kernel_rfl) (fun _ _ _ h => h) (Or.inl ⟨by rfl, ?_⟩) ?_ ?_
      rotate_left
      · intro w'
        go_simp
        with_reducible rfl
      rotate_left
      · simp only [Act.put, List.setIfInBounds_toArray, List.set_cons_zero, List.set_cons_succ, i64_w, i32_w]
        rfl
      refine pure_ (i := 44) (N := some 152) (v := ?_) (a' := ?_) #[true, true, true, true, true, true, true, true, true, true, true, true, true, true, true, true, true, true, true, true, true, true, true, true, true, true, true, true, true, true, true, true, true, true, true, true, true, true, true, true, true, true, true, true, true, false] rfl rfl (by kernel_rfl) (fun _ _ _ h => h) (Or.inl ⟨by rfl, ?_⟩) ?_ ?_
      rotate_left
      · intro w'
        go_simp
        with_reducible rfl
      rotate_left
      · simp only [Act.put, List.setIfInBounds_toArray, List.set_cons_zero, List.set_cons_succ, i64_w, i32_w]
        rfl
      refine pure_ (i := 45) (N := some 6) (v := ?_) (a' := ?_) #[true, true, true, true, true, true, true, true, true, true, true, true, true, true, true, true, true, true, true, true, true, true, true, true, true, true, true, true, true, true, true, true, true, true, true, true, true, true, true, true, true, true, true, true, true, true] rfl rfl (by kernel_rfl) (fun _ _ _ h => h) (Or.inl ⟨by rfl, ?_⟩) ?_ ?_
      rotate_left
      · intro w'
        go_simp
        with_reducible rfl
      rotate_left
      · simp only [Act.put, List.setIfInBounds_toArray, List.set_cons_zero, List.set_cons_succ, i64_w, i32_w]
        rfl
      refine done_ (by kernel_rfl) ?_
      go_wp2
      go_ret
      exact ⟨rfl, below_after hb7 (below_after hbel hHeld)⟩
end Go.Proofs.Ytjiapggmiddpdaa
