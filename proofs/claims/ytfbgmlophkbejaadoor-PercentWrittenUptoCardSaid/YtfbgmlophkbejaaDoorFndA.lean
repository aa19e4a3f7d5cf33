/- Fields: the place of the first one of a name: the closure, slices.IndexFunc, find. -/
import Derived.Test.YtfbgmlophkbejaaDoorFrmC
import Derived.Test.YtfbgmlophkbejaaDoorQPfax3
import Derived.Test.YtfbgmlophkbejaaDoorQPfax0
set_option linter.unusedVariables false
set_option linter.unusedSimpArgs false
namespace Go.Proofs.YtfbgmlophkbejaaDoor
open Go.RowKit Go.Proofs.YtfbgmlophkbejaaDoorW.PrintWords Go.Proofs.YtfbgmlophkbejaaDoorW.PrintLast Go.Proofs.YtfbgmlophkbejaaDoorQ.Pfa
namespace FC
theorem enter_fn {P : Program} {F : FuncId} {fn : Func} (hf : P.funcs[F]? = some fn) (h1 : (fn.name == "runtime.NumGoroutine") = false) (h2 : fn.body.isNone = false) (args : Array Value) (w : World) : (callFunc F args).run P w = .ok (.enter F args) w := by
  have h1' : ¬ fn.name = "runtime.NumGoroutine" := by simpa using h1
  have h2' : ¬ fn.body = Option.none := fun e => by rw [e] at h2; cases h2
  unfold callFunc
  simp [go_sem, hf, h1', h2']
/-- is a field of this name? -/
def isN (name : ByteArray) (x : S46) : Bool := decide (x.f0 = name)
/-- a field, as a value -/
def valF (x : S46) : Value := .agg #[.string x.f0, .string x.f1]
/-- the first place where it holds, from place i on; -1: there is none -/
def fixF (f : S46 → Bool) : List S46 → Int → Int
  | [], _ => -1
  | x :: l, i => if f x then i else fixF f l (i + 1)
theorem fixF_drop {f : S46 → Bool} {l : List S46} {k : Nat} (h : k < l.length) (i : Int) : fixF f (l.drop k) i = if f (rd_T46 l (k : Int)) then i else fixF f (l.drop (k + 1)) (i + 1) := by
  rw [List.drop_eq_getElem_cons h]
  have hg : rd_T46 l (k : Int) = l[k] := by unfold rd_T46; rw [Int.toNat_natCast, List.getD_eq_getElem?_getD, List.getElem?_eq_getElem h]; rfl
  rw [hg]
  rfl
theorem isN_eq (name : ByteArray) (x : S46) : (x.f0.toList == name.toList) = isN name x := by
  unfold isN
  by_cases h : x.f0 = name
  · rw [h, decide_eq_true rfl]; exact beq_self_eq_true _
  · rw [decide_eq_false h]
    refine beq_eq_false_iff_ne.2 fun e => h ?_
    rw [ByteArray.toList_eq, ByteArray.toList_eq] at e
    exact ByteArray.ext (Array.toList_inj.1 e)
set_option maxRecDepth 100000 in
theorem find1_any (name : ByteArray) (x : S46) (g : Nat) (W : World) (hB : Blk W g 9 #[.string name]) : Calls Tryd.prog 79 #[valF x, .pointer (some ⟨g, 0, none⟩)] W fun e w' => e = .returned (.bool (isN name x)) ∧ Below W.heap.size W w' := by
  have hlt := hB.lt
  have hb := below_one W (.cells #[.string x.f0, .string x.f1] 46)
  have h1 := hB.after hb
  have hc : (W.alloc (.cells #[.string x.f0, .string x.f1] 46)).cell? ⟨g, 0, none⟩ = some (.string name) := h1.cell 0
  have he := isN_eq name x
  have HE := Lib.hid he
  unfold valF
  clear he
  go_enter Tryd.func79, Tryd.ntmps79
  go_wp2
  go_ret
  exact ⟨by rw [HE.out]; rfl, hb⟩
set_option maxRecDepth 100000 in
theorem With1_any (name : ByteArray) (x : S46) (g : Nat) (W : World) (hB : Blk W g 9 #[.string name]) : Calls Tryd.prog 54 #[valF x, .pointer (some ⟨g, 0, none⟩)] W fun e w' => e = .returned (.bool (isN name x)) ∧ Below W.heap.size W w' := by
  have hlt := hB.lt
  have hb := below_one W (.cells #[.string x.f0, .string x.f1] 46)
  have h1 := hB.after hb
  have hc : (W.alloc (.cells #[.string x.f0, .string x.f1] 46)).cell? ⟨g, 0, none⟩ = some (.string name) := h1.cell 0
  have he := isN_eq name x
  have HE := Lib.hid he
  unfold valF
  clear he
  go_enter Tryd.func54, Tryd.ntmps54
  go_wp2
  go_ret
  exact ⟨by rw [HE.out]; rfl, hb⟩
set_option maxRecDepth 100000 in
theorem index_any (F : Nat) (caps : Array Value) (eg : ∀ args w, (callFunc F args).run Tryd.prog w = .ok (.enter F args) w) (p : S46 → Bool) (l : List S46) (A : Option Addr) (c : Nat) (w : World) (hC : Kd.C k46 w A l.length l)
    (hp : ∀ (W : World) (x : S46), Below w.heap.size w W → Calls Tryd.prog F (#[valF x] ++ caps) W fun e w' => e = .returned (.bool (p x)) ∧ Below W.heap.size W w') :
    Calls Tryd.prog 78 #[.slice A l.length c, .func (.func F) #[] caps] w fun e w' => e = .returned (.int .i64 (fixF p l 0)) ∧ Below w.heap.size w w' := by
  have hl := hC.2.1
  obtain ⟨R, hF⟩ : ∃ R, fixF p (l.drop 0) 0 = R := ⟨_, rfl⟩
  have hF' : fixF p l 0 = R := hF
  rw [hF']
  have HF : Hid (fixF p (l.drop 0) ((0 : Nat) : Int) = R) := Lib.hid hF
  have HP := Lib.hid hp
  have HC := Lib.hid hC
  clear hF hF' hp hC
  go_enter Tryd.func78, Tryd.ntmps78
  go_wp2
  go_loopw [8] (fun i wr => ∃ k : Nat, i = .int .i64 (k : Int) ∧ k ≤ l.length ∧ Hid (fixF p (l.drop k) (k : Int) = R) ∧ Below w.heap.size w wr) (fun i _ => l.length - (intOf i).toNat)
  case atStart => exact ⟨0, rfl, by omega, HF, Below.refl _ _⟩
  case round =>
    clear HF
    obtain ⟨k, rfl, hk, hw, hbel⟩ := hrel
    by_cases hlt : k < l.length
    · obtain ⟨ad, rfl, d0, d1⟩ := at_T46 (Kd.C_below HC.out hbel) (k : Int) (by omega) (by omega)
      simp only [Int.toNat_natCast] at d0 d1
      have hw2 := hw.out
      rw [fixF_drop hlt] at hw2
      have hd := HP.out wr (rd_T46 l (k : Int)) hbel
      unfold valF at hd
      generalize rd_T46 l (k : Int) = q at *
      cases hc : p q with
      | true =>
        rw [hc] at hw2 hd
        simp only [if_true] at hw2
        have HW := Lib.hid hw2
        have HH := Lib.hid hd
        clear hd hc hw hw2
        go_wp2_with (go_at_fn F; (with_reducible refine (HH.out).mono ?_); rintro e w2 ⟨rfl, hb2⟩)
        go_ret
        exact ⟨by rw [← HW.out]; rfl, below_after hbel hb2⟩
      | false =>
        rw [hc] at hw2 hd
        simp only [Bool.false_eq_true, if_false] at hw2
        have HW : Hid (fixF p (l.drop (k + 1)) ((k + 1 : Nat) : Int) = R) := Lib.hid hw2
        have HH := Lib.hid hd
        clear hd hc hw hw2
        go_wp2_with (go_at_fn F; (with_reducible refine (HH.out).mono ?_); rintro e w2 ⟨rfl, hb2⟩)
        exact ⟨⟨k + 1, rfl, by omega, HW, below_after hbel hb2⟩, by simp [intOf]; omega⟩
    · obtain rfl : k = l.length := by omega
      have hw2 := hw.out
      rw [List.drop_length] at hw2
      have HW := Lib.hid (show R = -1 from hw2.symm)
      clear hw hw2
      go_wp2
      go_ret
      exact ⟨by rw [HW.out]; rfl, hbel⟩
set_option maxRecDepth 100000 in
theorem find_any (name : ByteArray) (l : List S46) (A : Option Addr) (c : Nat) (w : World) (hC : Kd.C k46 w A l.length l) : Calls Tryd.prog 51 #[.slice A l.length c, .string name] w fun e w' => e = .returned (.int .i64 (fixF (isN name) l 0)) ∧ Below w.heap.size w w' := by
  have hb := below_one w (.cells #[.string name] 9)
  have hB : Blk (w.alloc (.cells #[.string name] 9)) w.heap.size 9 #[.string name] := Blk.new _ _ _
  have hi := index_any 79 #[.pointer (some ⟨w.heap.size, 0, none⟩)] (enter_fn Tryd.func79 (by kernel_rfl) (by kernel_rfl)) (isN name) l A c _ (Kd.C_below hC hb) (fun W x hW => find1_any name x _ W (hB.after hW))
  have HI := Lib.hid hi
  clear hi
  go_enter Tryd.func51, Tryd.ntmps51
  go_wp2_with (go_at_call 78; (with_reducible refine (HI.out).mono ?_); rintro e w2 ⟨rfl, hb2⟩)
  go_ret
  exact ⟨rfl, below_after hb hb2⟩
theorem fixF_cases (f : S46 → Bool) (l : List S46) (i : Int) : (fixF f l i = -1 ∧ ∀ x ∈ l, f x = false) ∨ ∃ (k : Nat) (h : k < l.length), fixF f l i = i + k ∧ f l[k] = true ∧ ∀ x ∈ l.take k, f x = false := by
  induction l generalizing i with
  | nil => exact Or.inl ⟨rfl, fun x hx => by cases hx⟩
  | cons x l ih =>
    unfold fixF
    by_cases h : f x = true
    · rw [if_pos h]
      exact Or.inr ⟨0, by simp, by simp, h, fun y hy => by cases hy⟩
    · rw [if_neg h]
      have h' : f x = false := by simpa using h
      rcases ih (i + 1) with ⟨h1, h2⟩ | ⟨k, hk, h1, h2, h3⟩
      · refine Or.inl ⟨h1, fun y hy => ?_⟩
        rcases List.mem_cons.1 hy with rfl | hy
        · exact h'
        · exact h2 y hy
      · refine Or.inr ⟨k + 1, by simp; omega, by omega, h2, fun y hy => ?_⟩
        rw [List.take_succ_cons] at hy
        rcases List.mem_cons.1 hy with rfl | hy
        · exact h'
        · exact h3 y hy
/-- the value of the first field of a name -/
def getF (name : ByteArray) (l : List S46) : ByteArray × Bool := match l.find? (isN name) with
  | some x => (x.f1, true)
  | none => (⟨#[]⟩, false)
theorem find_take (f : S46 → Bool) (l : List S46) (k : Nat) (hk : k < l.length) (h1 : f l[k] = true) (h2 : ∀ x ∈ l.take k, f x = false) : l.find? f = some l[k] := by
  conv => lhs; rw [← List.take_append_drop k l, List.drop_eq_getElem_cons hk]
  rw [List.find?_append, List.find?_eq_none.2 (fun x hx => by rw [h2 x hx]; simp), List.find?_cons_of_pos h1]
  rfl
set_option maxRecDepth 100000 in
theorem Get_any (name : ByteArray) (l : List S46) (A : Option Addr) (c : Nat) (w : World) (hC : Kd.C k46 w A l.length l) : Calls Tryd.prog 18 #[.slice A l.length c, .string name] w fun e w' => e = .returned (.tuple #[.string (getF name l).1, .bool (getF name l).2]) ∧ Below w.heap.size w w' := by
  have hl := hC.2.1
  have hf := find_any name l A c w hC
  rcases fixF_cases (isN name) l 0 with ⟨h1, h2⟩ | ⟨k, hk, h1, h2, h3⟩
  · rw [h1] at hf
    have hg : getF name l = (⟨#[]⟩, false) := by unfold getF; rw [List.find?_eq_none.2 (fun x hx => by rw [h2 x hx]; simp)]
    rw [hg]
    have HF := Lib.hid hf
    clear hf hg h1 h2
    go_enter Tryd.func18, Tryd.ntmps18
    go_wp2_with (go_at_call 51; (with_reducible refine (HF.out).mono ?_); rintro e w2 ⟨rfl, hb2⟩)
    go_ret2
    exact ⟨rfl, hb2⟩
  · rw [h1, Int.zero_add] at hf
    have hg : getF name l = ((rd_T46 l (k : Int)).f1, true) := by
      unfold getF
      rw [find_take _ l k hk h2 h3]
      have : rd_T46 l (k : Int) = l[k] := by unfold rd_T46; rw [Int.toNat_natCast, List.getD_eq_getElem?_getD, List.getElem?_eq_getElem hk]; rfl
      rw [this]
    rw [hg]
    have HF := Lib.hid hf
    have HC := Lib.hid hC
    have hcs := fun W (hb : Below w.heap.size w W) => at_T46 (Kd.C_below hC hb) (k : Int) (by omega) (by omega)
    have HCS := Lib.hid hcs
    clear hf hg h1 h2 h3 hcs hC
    go_enter Tryd.func18, Tryd.ntmps18
    go_wp2_with (go_at_call 51; (with_reducible refine (HF.out).mono ?_); rintro e w2 ⟨rfl, hb2⟩; obtain ⟨ad, rfl, d0, d1⟩ := HCS.out w2 hb2; simp only [Int.toNat_natCast] at d0 d1)
    go_ret2
    exact ⟨rfl, hb2⟩
end FC
end Go.Proofs.YtfbgmlophkbejaaDoor
