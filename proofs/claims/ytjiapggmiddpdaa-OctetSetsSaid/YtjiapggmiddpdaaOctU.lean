/- Union of two and of three sets; what Cross and Minus make of sets; All of Members. -/
import Derived.Test.YtjiapggmiddpdaaOctD
import Derived.Test.YtjiapggmiddpdaaOctA
import Derived.Test.YtjiapggmiddpdaaBase4
import Derived.ChangeKeysEq
set_option linter.unusedVariables false
set_option linter.unusedSimpArgs false
namespace Go.Proofs.Ytjiapggmiddpdaa
open Go.RowKit Go.Proofs.YtjiapggmiddpdaaW.PrintWords Go.Proofs.YtjiapggmiddpdaaW.PrintLast
theorem union_two {g : Nat} {w : World} {x0 x1 x2 x3 y0 y1 y2 y3 : Int} (hx : Wf4 x0 x1 x2 x3) (hy : Wf4 y0 y1 y2 y3) (hb : Blk w g 24 (nums .u64 [x0, x1, x2, x3, y0, y1, y2, y3]).toArray) :
    Calls Try.prog 26 #[.slice (some ⟨g, 0, none⟩) 2 2] w (Set4Such (fun r0 r1 r2 r3 => Wf4 r0 r1 r2 r3 ∧ ∀ b, 0 ≤ b → b < 256 → inSet [r0, r1, r2, r3] b = (inSet [x0, x1, x2, x3] b || inSet [y0, y1, y2, y3] b)) w) := by
  refine (union_any g 2 2 [x0, x1, x2, x3, y0, y1, y2, y3] w rfl (fun j hj => ?_) (fun x h => ?_) (by omega)).mono ?_
  · have := blk_num_at hb (j : Int) (by omega) (by omega)
    simpa [rd, List.getD_eq_getElem?_getD] using this
  · simp only [List.mem_cons, List.not_mem_nil, or_false] at h
    rcases h with rfl | rfl | rfl | rfl | rfl | rfl | rfl | rfl
    · exact hx.1
    · exact hx.2.1
    · exact hx.2.2.1
    · exact hx.2.2.2
    · exact hy.1
    · exact hy.2.1
    · exact hy.2.2.1
    · exact hy.2.2.2
  · rintro e w' ⟨r0, r1, r2, r3, ⟨h1, h2⟩, he, hl⟩
    refine ⟨r0, r1, r2, r3, ⟨h1, fun b h0 hb => ?_⟩, he, hl⟩
    rw [h2 b h0 hb]
    simp only [anyK, quadIn, Bool.false_or]
    rfl
theorem union_three {g : Nat} {w : World} {x0 x1 x2 x3 y0 y1 y2 y3 z0 z1 z2 z3 : Int} (hx : Wf4 x0 x1 x2 x3) (hy : Wf4 y0 y1 y2 y3) (hz : Wf4 z0 z1 z2 z3) (hb : Blk w g 24 (nums .u64 [x0, x1, x2, x3, y0, y1, y2, y3, z0, z1, z2, z3]).toArray) :
    Calls Try.prog 26 #[.slice (some ⟨g, 0, none⟩) 3 3] w (Set4Such (fun r0 r1 r2 r3 => Wf4 r0 r1 r2 r3 ∧ ∀ b, 0 ≤ b → b < 256 → inSet [r0, r1, r2, r3] b = (inSet [x0, x1, x2, x3] b || inSet [y0, y1, y2, y3] b || inSet [z0, z1, z2, z3] b)) w) := by
  refine (union_any g 3 3 [x0, x1, x2, x3, y0, y1, y2, y3, z0, z1, z2, z3] w rfl (fun j hj => ?_) (fun x h => ?_) (by omega)).mono ?_
  · have := blk_num_at hb (j : Int) (by omega) (by omega)
    simpa [rd, List.getD_eq_getElem?_getD] using this
  · simp only [List.mem_cons, List.not_mem_nil, or_false] at h
    rcases h with rfl | rfl | rfl | rfl | rfl | rfl | rfl | rfl | rfl | rfl | rfl | rfl
    · exact hx.1
    · exact hx.2.1
    · exact hx.2.2.1
    · exact hx.2.2.2
    · exact hy.1
    · exact hy.2.1
    · exact hy.2.2.1
    · exact hy.2.2.2
    · exact hz.1
    · exact hz.2.1
    · exact hz.2.2.1
    · exact hz.2.2.2
  · rintro e w' ⟨r0, r1, r2, r3, ⟨h1, h2⟩, he, hl⟩
    refine ⟨r0, r1, r2, r3, ⟨h1, fun b h0 hb => ?_⟩, he, hl⟩
    rw [h2 b h0 hb]
    simp only [anyK, quadIn, Bool.false_or]
    rfl
theorem cross_such {x0 x1 x2 x3 y0 y1 y2 y3 : Int} (w : World) (hx : Wf4 x0 x1 x2 x3) (hy : Wf4 y0 y1 y2 y3) : Calls Try.prog 24 #[set4 x0 x1 x2 x3, set4 y0 y1 y2 y3] w
    (Set4Such (fun r0 r1 r2 r3 => Wf4 r0 r1 r2 r3 ∧ ∀ b, 0 ≤ b → b < 256 → inSet [r0, r1, r2, r3] b = (inSet [x0, x1, x2, x3] b && inSet [y0, y1, y2, y3] b)) w) := by
  refine (Cross_any x0 x1 x2 x3 y0 y1 y2 y3 w).mono ?_
  rintro e w' ⟨rfl, hb⟩
  exact ⟨_, _, _, _, ⟨⟨hx.1.and hy.1, hx.2.1.and hy.2.1, hx.2.2.1.and hy.2.2.1, hx.2.2.2.and hy.2.2.2⟩, fun b h0 h1 => inSet_op (f := fun x y => bits .and .u64 x y) (g := fun a b => a && b) (fun hx hy => hx.and hy) (fun hx hy j _ => inW_and hx hy j) hx hy b h0 h1⟩, rfl, hb⟩
theorem minus_such {x0 x1 x2 x3 y0 y1 y2 y3 : Int} (w : World) (hx : Wf4 x0 x1 x2 x3) (hy : Wf4 y0 y1 y2 y3) : Calls Try.prog 25 #[set4 x0 x1 x2 x3, set4 y0 y1 y2 y3] w
    (Set4Such (fun r0 r1 r2 r3 => Wf4 r0 r1 r2 r3 ∧ ∀ b, 0 ≤ b → b < 256 → inSet [r0, r1, r2, r3] b = (inSet [x0, x1, x2, x3] b && !inSet [y0, y1, y2, y3] b)) w) := by
  refine (Minus_any x0 x1 x2 x3 y0 y1 y2 y3 w).mono ?_
  rintro e w' ⟨rfl, hb⟩
  exact ⟨_, _, _, _, ⟨⟨hx.1.andNot hy.1, hx.2.1.andNot hy.2.1, hx.2.2.1.andNot hy.2.2.1, hx.2.2.2.andNot hy.2.2.2⟩, fun b h0 h1 => inSet_op (f := fun x y => bits .andNot .u64 x y) (g := fun a b => a && !b) (fun hx hy => hx.andNot hy) (fun hx hy j hj => inW_andNot hx hy j hj) hx hy b h0 h1⟩, rfl, hb⟩
/-- a set's post whose members are known: the set itself -/
theorem such_is {x0 x1 x2 x3 : Int} {p : Int → Bool} {w : World} {e : Ending} {w' : World} (hx : Wf4 x0 x1 x2 x3) (hp : ∀ b, 0 ≤ b → b < 256 → p b = inSet [x0, x1, x2, x3] b)
    (h : Set4Such (fun r0 r1 r2 r3 => Wf4 r0 r1 r2 r3 ∧ ∀ b, 0 ≤ b → b < 256 → inSet [r0, r1, r2, r3] b = p b) w e w') : e = .returned (set4 x0 x1 x2 x3) ∧ Below w.heap.size w w' := by
  obtain ⟨r0, r1, r2, r3, ⟨h1, h2⟩, he, hl⟩ := h
  obtain ⟨rfl, rfl, rfl, rfl⟩ := inSet_ext h1 hx (fun b h0 hb => (h2 b h0 hb).trans (hp b h0 hb))
  exact ⟨he, hl⟩
theorem info_u64 : (Try.prog.info? 22).map (fun i => i.size) = some 1 := by kernel_rfl
theorem cells_u64 : Try.prog.cellsOf 22 = 1 := by kernel_rfl
theorem eq_u64 (d : Nat) (w : World) (a b : Int) : (Op.equalIn (d + 1) 22 (.int .u64 a) (.int .u64 b)).run Try.prog w = .ok (a == b) w := by
  simp only [Op.equalIn, Sem.run_bind, run_underlying Try.underlying22, Result.andThen_ok]
  simp
theorem equal4_same (x0 x1 x2 x3 : Int) (w : World) : (Op.equalIn 10000 24 (set4 x0 x1 x2 x3) (set4 x0 x1 x2 x3)).run Try.prog w = .ok true w := by
  obtain ⟨i, hi, hz⟩ := Option.map_eq_some_iff.1 info_u64
  have r4 : List.range 4 = [0, 1, 2, 3] := rfl
  have q0 : (part 22 #[Value.int .u64 x0, .int .u64 x1, .int .u64 x2, .int .u64 x3] 0).run Try.prog w = .ok (.int .u64 x0) w := by kernel_rfl
  have q1 : (part 22 #[Value.int .u64 x0, .int .u64 x1, .int .u64 x2, .int .u64 x3] 1).run Try.prog w = .ok (.int .u64 x1) w := by kernel_rfl
  have q2 : (part 22 #[Value.int .u64 x0, .int .u64 x1, .int .u64 x2, .int .u64 x3] 2).run Try.prog w = .ok (.int .u64 x2) w := by kernel_rfl
  have q3 : (part 22 #[Value.int .u64 x0, .int .u64 x1, .int .u64 x2, .int .u64 x3] 3).run Try.prog w = .ok (.int .u64 x3) w := by kernel_rfl
  have hq := eq_u64 9998 w
  rw [show (10000 : Nat) = 9999 + 1 from rfl, run_equalIn_array (w := w) 9999 _ _ Try.underlying24 hi, cells_u64, r4]
  simp only [Nat.reduceAdd] at hq
  simp [Op.eqItems, Sem.run_bind, Result.andThen_ok, q0, q1, q2, q3, hq]
theorem wf_zero : Wf4 0 0 0 0 := ⟨⟨by omega, by omega⟩, ⟨by omega, by omega⟩, ⟨by omega, by omega⟩, ⟨by omega, by omega⟩⟩
theorem cross_fact {x0 x1 x2 x3 y0 y1 y2 y3 : Int} (hx : Wf4 x0 x1 x2 x3) (hy : Wf4 y0 y1 y2 y3) : Wf4 (bits .and .u64 x0 y0) (bits .and .u64 x1 y1) (bits .and .u64 x2 y2) (bits .and .u64 x3 y3) ∧
    ∀ b, 0 ≤ b → b < 256 → inSet [bits .and .u64 x0 y0, bits .and .u64 x1 y1, bits .and .u64 x2 y2, bits .and .u64 x3 y3] b = (inSet [x0, x1, x2, x3] b && inSet [y0, y1, y2, y3] b) :=
  ⟨⟨hx.1.and hy.1, hx.2.1.and hy.2.1, hx.2.2.1.and hy.2.2.1, hx.2.2.2.and hy.2.2.2⟩, fun b h0 h1 => inSet_op (f := fun x y => bits .and .u64 x y) (g := fun a b => a && b) (fun hx hy => hx.and hy) (fun hx hy j _ => inW_and hx hy j) hx hy b h0 h1⟩
theorem minus_fact {x0 x1 x2 x3 y0 y1 y2 y3 : Int} (hx : Wf4 x0 x1 x2 x3) (hy : Wf4 y0 y1 y2 y3) : Wf4 (bits .andNot .u64 x0 y0) (bits .andNot .u64 x1 y1) (bits .andNot .u64 x2 y2) (bits .andNot .u64 x3 y3) ∧
    ∀ b, 0 ≤ b → b < 256 → inSet [bits .andNot .u64 x0 y0, bits .andNot .u64 x1 y1, bits .andNot .u64 x2 y2, bits .andNot .u64 x3 y3] b = (inSet [x0, x1, x2, x3] b && !inSet [y0, y1, y2, y3] b) :=
  ⟨⟨hx.1.andNot hy.1, hx.2.1.andNot hy.2.1, hx.2.2.1.andNot hy.2.2.1, hx.2.2.2.andNot hy.2.2.2⟩, fun b h0 h1 => inSet_op (f := fun x y => bits .andNot .u64 x y) (g := fun a b => a && !b) (fun hx hy => hx.andNot hy) (fun hx hy j hj => inW_andNot hx hy j hj) hx hy b h0 h1⟩
theorem has_is {x0 x1 x2 x3 b : Int} {v : Bool} (w : World) (hb0 : 0 ≤ b) (hb1 : b ≤ 255) (h : inSet [x0, x1, x2, x3] b = v) :
    Calls Try.prog 27 #[set4 x0 x1 x2 x3, .int .u8 b] w fun e w' => e = .returned (.bool v) ∧ Below w.heap.size w w' := by
  subst h
  exact has_any _ _ _ _ _ _ hb0 hb1
theorem size_strOfNums (xs : List Int) : (strOfNums xs).size = xs.length := by
  simp [strOfNums, ByteArray.size]
theorem all_members {x0 x1 x2 x3 : Int} (w : World) : Calls Try.prog 14 #[.string (strOfNums (memK (inSet [x0, x1, x2, x3]) 256)), set4 x0 x1 x2 x3] w fun e w' => e = .returned (.bool true) ∧ Below w.heap.size w w' := by
  have hl := memK_len (inSet [x0, x1, x2, x3]) 256
  have hs := size_strOfNums (memK (inSet [x0, x1, x2, x3]) 256)
  refine (all_any _ x0 x1 x2 x3 w (by omega)).mono ?_
  rintro e w' ⟨r, hr, rfl, hb⟩
  have hm := memK_mem (inSet [x0, x1, x2, x3]) 256
  obtain rfl : r = true := hr.2 fun j h0 h1 => by
    show inSet [x0, x1, x2, x3] (bt (strOfNums (memK (inSet [x0, x1, x2, x3]) 256)) j) = true
    rw [bt_strOfNums _ _ h0 (fun x hx => by have := hm x hx; omega)]
    rw [hs] at h1
    have hj : j.toNat < (memK (inSet [x0, x1, x2, x3]) 256).length := by omega
    have hmem : rd (memK (inSet [x0, x1, x2, x3]) 256) j ∈ memK (inSet [x0, x1, x2, x3]) 256 := by
      have e : rd (memK (inSet [x0, x1, x2, x3]) 256) j = (memK (inSet [x0, x1, x2, x3]) 256)[j.toNat] := by
        simp [rd, List.getD_eq_getElem?_getD, List.getElem?_eq_getElem hj]
      rw [e]; exact List.getElem_mem hj
    exact (hm _ hmem).2.2
  exact ⟨rfl, hb⟩
end Go.Proofs.Ytjiapggmiddpdaa
