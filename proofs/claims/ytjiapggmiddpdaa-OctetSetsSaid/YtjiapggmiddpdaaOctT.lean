/- Sets made of slices of bytes: Make and the document's Make. -/
import Derived.Test.YtjiapggmiddpdaaOctP
set_option linter.unusedVariables false
set_option linter.unusedSimpArgs false
namespace Go.Proofs.Ytjiapggmiddpdaa
open Go.RowKit Go.Proofs.YtjiapggmiddpdaaW.PrintWords Go.Proofs.YtjiapggmiddpdaaW.PrintLast
theorem rd_mem {xs : List Int} {k : Int} (h0 : 0 ≤ k) (h1 : k < xs.length) : rd xs k ∈ xs := by
  have hk : k.toNat < xs.length := by omega
  have e : rd xs k = xs[k.toNat] := by simp [rd, List.getD_eq_getElem?_getD, List.getElem?_eq_getElem hk]
  rw [e]; exact List.getElem_mem hk
theorem make_rd (a z : Int) (A : Option Addr) (c : Nat) (xs : List Int) (w : World) (ha : 0 ≤ a) (ha1 : a ≤ 255) (hz0 : 0 ≤ z) (hz1 : z ≤ 255) (hr : ∀ x ∈ xs, 0 ≤ x ∧ x ≤ 255) (hR : ReadsInt w .u8 A xs.length xs) :
    Calls Try.prog 29 #[.int .u8 a, .int .u8 z, .slice A xs.length c] w (Set4Such (fun y0 y1 y2 y3 => Wf4 y0 y1 y2 y3 ∧ ∀ b, 0 ≤ b → b < 256 → inSet [y0, y1, y2, y3] b = ((decide (a ≤ b) && decide (b ≤ z)) || inList xs b xs.length)) w) := by
  cases A with
  | some ad =>
    exact make_any a z ad c xs w ha ha1 hz0 hz1 (fun k h0 h1 => hr _ (rd_mem h0 h1)) hR.2.1 (fun k h0 h1 => by
      obtain ⟨ad', e, hc⟩ := hR.at_ k h0 h1
      injection e with e
      subst e
      exact hc)
  | none =>
    have hn : xs.length = 0 := by
      rcases Nat.eq_zero_or_pos xs.length with h | h
      · exact h
      · obtain ⟨ad, e, _⟩ := hR.2.2 h
        cases e
    obtain rfl := List.eq_nil_of_length_eq_zero hn
    refine (make_nil a z c w ha ha1 hz0 hz1).mono ?_
    rintro e w' ⟨y0, y1, y2, y3, ⟨h1, h2⟩, he, hb⟩
    exact ⟨y0, y1, y2, y3, ⟨h1, fun b h0 h3 => by rw [h2 b h0 h3]; show _ = (_ || inList [] b 0); rw [inList_zero, Bool.or_false]⟩, he, hb⟩
theorem inStr_list (xs : List Int) (b : Int) (hr : ∀ x ∈ xs, 0 ≤ x ∧ x ≤ 255) : ∀ k, inStr (strOfNums xs) b k = inList xs b k
  | 0 => by rw [inStr_zero, inList_zero]
  | k + 1 => by rw [inStr, inList, inStr_list xs b hr k, bt_strOfNums xs k (by omega) hr]
theorem exec_text {P : Program} {o : Oper} {a : Act} {w : World} {src dst e : TypeId} {x : Operand} {A : Option Addr} {c : Nat} {xs : List Int} (ho : o.op = .convert src dst x) (hx : a.eval x = .slice A xs.length c)
    (hs : P.underlying src = some (.slice e)) (he : P.underlying e = some (.int .u8)) (hd : P.underlying dst = some .string) (hR : ReadsInt w .u8 A xs.length xs) : (execOp a.eval o).run P w = .ok (.value (.string (strOfNums xs))) w := by
  have h := string_of_reads (c := c) hs he hd hR
  unfold execOp
  simp only [ho, hx, Sem.run_bind, h, Result.andThen_ok]
  rfl
theorem exec_build_nil {P : Program} {o : Oper} {a : Act} {w : World} {t : TypeId} {cells : Array Value} (ho : o.op = .build t #[]) (hf : P.built t [] = some cells) : (execOp a.eval o).run P w = .ok (.value (.agg cells)) w := by
  unfold execOp
  have h := run_build (P := P) w t #[] cells (by simpa using hf)
  simp [ho, h]
/-- byte b is asked for: from a to z, or in the list -/
def mk3 (a z : Int) (xs : List Int) (b : Int) : Bool := (decide (a ≤ b) && decide (b ≤ z)) || inList xs b xs.length
set_option maxRecDepth 100000 in
set_option maxHeartbeats 8000000 in
theorem rmake_any (a z : Int) (A : Option Addr) (c : Nat) (xs : List Int) (w : World) (ha : 0 ≤ a) (ha1 : a ≤ 255) (hz0 : 0 ≤ z) (hz1 : z ≤ 255) (hr : ∀ x ∈ xs, 0 ≤ x ∧ x ≤ 255) (hR : ReadsInt w .u8 A xs.length xs) :
    Calls Try.prog 30 #[.int .u8 a, .int .u8 z, .slice A xs.length c] w (ListSuch .u8 (fun l => l.length = 256 ∧ ∀ b, 0 ≤ b → b < 256 → rd l b = if mk3 a z xs b = true then 1 else 0) w) := by
  have hz := zero_S
  have hsz := size_strOfNums xs
  have hl := hR.2.1
  have Hr := Lib.hid hr
  have HR := Lib.hid hR
  clear hr hR
  have wa : IntKind.i64.wrap a = a := by rw [IntKind.wrap_i64]; omega
  have wz : IntKind.i64.wrap z = z := by rw [IntKind.wrap_i64]; omega
  go_enter Try.func30, Try.ntmps30
  go_upto_region 1 with (fail)
  clear hz
  have b2 : Blk (w.alloc (.cells (nums .u8 no256).toArray 26)) w.heap.size 26 (nums .u8 no256).toArray := Blk.new _ _ _
  have hbel : Below w.heap.size w (w.alloc (.cells (nums .u8 no256).toArray 26)) := below_one _ _
  generalize w.alloc (.cells (nums .u8 no256).toArray 26) = w0 at *
  have hst : ∀ w1 w2 : World, (Below w.heap.size w w1 ∧ Blk w1 w.heap.size 26 (nums .u8 no256).toArray) → Below w1.heap.size w1 w2 → (Below w.heap.size w w2 ∧ Blk w2 w.heap.size 26 (nums .u8 no256).toArray) := fun _ _ ⟨h1, h2⟩ h => ⟨below_after h1 h, h2.after h⟩
  refine start_ (n := 10) (S := (fun w' => Below w.heap.size w w' ∧ Blk w' w.heap.size 26 (nums .u8 no256).toArray)) (ds := [9]) #[false, false, false, false, false, false, false, false, false, false] (by kernel_rfl) rfl rfl ⟨hbel.drew, b2.drew⟩ (fun hHeld => ?_)
  refine pure_ (i := 1) (N := some 8) (v := ?_) (a' := ?_) #[false, true, false, false, false, false, false, false, false, false] rfl rfl (by kernel_rfl) (fun _ _ _ h => h) (Or.inl ⟨by rfl, ?_⟩) ?_ ?_
  rotate_left
  · intro w'
    go_simp
    with_reducible rfl
  rotate_left
  · simp only [Act.put, List.setIfInBounds_toArray, List.set_cons_zero, List.set_cons_succ, i64_w, i32_w]
    rfl
  refine pure_ (i := 2) (N := some 9) (v := ?_) (a' := ?_) #[false, true, true, false, false, false, false, false, false, false] rfl rfl (by kernel_rfl) (fun _ _ _ h => h) (Or.inl ⟨by rfl, ?_⟩) ?_ ?_
  rotate_left
  · intro w'
    go_simp
    with_reducible rfl
  rotate_left
  · simp only [Act.put, List.setIfInBounds_toArray, List.set_cons_zero, List.set_cons_succ, i64_w, i32_w]
    rfl
  refine pure_ (i := 3) (N := some 10) (v := ?_) (a' := ?_) #[false, true, true, true, false, false, false, false, false, false] rfl rfl (by kernel_rfl) (fun _ _ _ h => h) (Or.inl ⟨by rfl, ?_⟩) ?_ ?_
  rotate_left
  · intro w'
    go_simp
    with_reducible rfl
  rotate_left
  · simp only [Act.put, List.setIfInBounds_toArray, List.set_cons_zero, List.set_cons_succ, i64_w, i32_w]
    rfl
  refine pure_ (i := 4) (N := some 11) (v := ?_) (a' := ?_) #[false, true, true, true, true, false, false, false, false, false] rfl rfl (by kernel_rfl) (fun _ _ _ h => h) (Or.inl ⟨by rfl, ?_⟩) ?_ ?_
  rotate_left
  · intro w'
    go_simp
    with_reducible rfl
  rotate_left
  · simp only [Act.put, List.setIfInBounds_toArray, List.set_cons_zero, List.set_cons_succ, i64_w, i32_w]
    rfl
  refine pure_ (i := 6) (N := some 13) (v := ?_) (a' := ?_) #[false, true, true, true, true, false, true, false, false, false] rfl rfl (by kernel_rfl) (fun _ _ _ h => h) (Or.inl ⟨by rfl, ?_⟩) ?_ ?_
  rotate_left
  · intro w'
    go_simp
    with_reducible rfl
  rotate_left
  · simp only [Act.put, List.setIfInBounds_toArray, List.set_cons_zero, List.set_cons_succ, i64_w, i32_w]
    rfl
  refine take_ (i := 0) (N := some 7) (v := ?_) (a' := ?_) #[true, true, true, true, true, false, true, false, false, false] rfl rfl (by kernel_rfl) (fun _ _ _ h => h) (Or.inl ⟨by rfl, ?_⟩) hHeld ?_ ?_
  rotate_left
  · rintro w' ⟨s1, s2⟩
    refine exec_build_nil (t := 26) ?_ built_S
    rfl
  rotate_left
  · simp only [Act.put, List.setIfInBounds_toArray, List.set_cons_zero, List.set_cons_succ, i64_w, i32_w]
    rfl
  refine take_ (i := 7) (N := some 14) (v := ?_) (a' := ?_) #[true, true, true, true, true, false, true, true, false, false] rfl rfl (by kernel_rfl) (fun _ _ _ h => h) (Or.inl ⟨by rfl, ?_⟩) hHeld ?_ ?_
  rotate_left
  · rintro w' ⟨s1, s2⟩
    refine exec_text (src := 44) (dst := 9) (x := .tmp 13) (A := A) (c := c) (xs := xs) ?_ ?_ Try.underlying44 Try.underlying5 Try.underlying9 (HR.out.below s1)
    · rfl
    · rfl
  rotate_left
  · simp only [Act.put, List.setIfInBounds_toArray, List.set_cons_zero, List.set_cons_succ, i64_w, i32_w]
    rfl
  refine one_ (i := 5) (N := some 12) #[true, true, true, true, true, true, true, true, false, false] rfl rfl (by kernel_rfl) (by decide) (fun K hK => ?_)
  refine goes_ Try.func47 (by kernel_rfl) rfl #[.agg (nums .u8 no256).toArray, .int .i64 a, .int .i64 z] (by rfl) rfl rfl (by first | rfl | (simp only [List.map_toArray, List.map_cons, List.map_nil]; done) | (simp only [List.map_toArray, List.map_cons, List.map_nil]; rfl)) ?_
  refine (rfrom_any no256 a z _ no256_len ha ha1 hz0 hz1).mono ?_
  rintro _ wq ⟨l1, hl1, rfl, hbc⟩
  refine ⟨_, rfl, ?_⟩
  have H1 := Lib.hid hl1
  clear hl1
  refine hK.out _ _ (hst _ _ hHeld hbc) (fun hHeld => ?_)
  clear hK K
  refine norm_ (a' := ?_) ?_ ?_
  rotate_left
  · show Act.put _ (some 12) _ = _
    simp only [Act.put, List.setIfInBounds_toArray, List.set_cons_zero, List.set_cons_succ, i64_w, i32_w]
    rfl
  refine one_ (i := 8) (N := some 15) #[true, true, true, true, true, true, true, true, true, false] rfl rfl (by kernel_rfl) (by decide) (fun K hK => ?_)
  refine goes_ Try.func46 (by kernel_rfl) rfl #[.agg (nums .u8 l1).toArray, .string (strOfNums xs)] (by rfl) rfl rfl (by first | rfl | (simp only [List.map_toArray, List.map_cons, List.map_nil]; done) | (simp only [List.map_toArray, List.map_cons, List.map_nil]; rfl)) ?_
  refine (rwith_any l1 (strOfNums xs) _ H1.out.1 (by omega)).mono ?_
  rintro _ wq ⟨l2, hl2, rfl, hbc⟩
  refine ⟨_, rfl, ?_⟩
  have H2 := Lib.hid hl2
  clear hl2
  refine hK.out _ _ (hst _ _ hHeld hbc) (fun hHeld => ?_)
  clear hK K
  refine norm_ (a' := ?_) ?_ ?_
  rotate_left
  · show Act.put _ (some 15) _ = _
    simp only [Act.put, List.setIfInBounds_toArray, List.set_cons_zero, List.set_cons_succ, i64_w, i32_w]
    rfl
  refine last_ (i := 9) (N := none) #[true, true, true, true, true, true, true, true, true, true] rfl rfl (by kernel_rfl) (by decide) (fun K hK => ?_)
  refine store_ (by rfl) rfl 26 _ _ rfl w.heap.size (nums .u8 l2).toArray rfl rfl 26 _ hHeld.2 256 size_S (by rw [nums_size]; exact H2.out.1) rfl (nums_one _ _) ?_
  intro wS bS kS
  refine hK.out _ _ ?_
  clear hK K
  refine done_ (by kernel_rfl) ?_
  go_wp2
  refine bodyPost_ret (ret_blk (ty := 26) rfl _ _ _ _ _ _ rfl bS Try.underlying26 rfl 256 size_S (by rw [nums_size]; exact H2.out.1)) rfl ?_
  refine ⟨l2, ⟨H2.out.1, fun b h0 h1 => ?_⟩, rfl, below_grown hHeld.1 kS (Nat.le_refl _)⟩
  rw [H2.out.2 b h0 h1, H1.out.2 b h0 h1, no256_at, inStr_list xs b Hr.out, hsz]
  unfold mk3
  by_cases g : a ≤ b <;> by_cases g' : b ≤ z <;> cases inList xs b xs.length <;> simp [g, g']
end Go.Proofs.Ytjiapggmiddpdaa
