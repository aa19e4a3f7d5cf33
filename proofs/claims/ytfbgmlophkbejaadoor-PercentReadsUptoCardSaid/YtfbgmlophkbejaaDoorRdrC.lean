/- A form's reader, fed texts one after another: how far it has come. -/
import Derived.Test.YtfbgmlophkbejaaDoorRdrB
import Derived.Test.YtfbgmlophkbejaaDoorQPfax3
import Derived.Test.YtfbgmlophkbejaaDoorQPfax6
import Derived.Test.YtfbgmlophkbejaaDoorQPfax2
import Derived.Test.YtfbgmlophkbejaaDoorQPfax0
set_option linter.unusedVariables false
set_option linter.unusedSimpArgs false
namespace Go.Proofs.YtfbgmlophkbejaaDoor
open Go.RowKit Go.Proofs.YtfbgmlophkbejaaDoorW.PrintWords Go.Proofs.YtfbgmlophkbejaaDoorW.PrintLast Go.Proofs.YtfbgmlophkbejaaDoorQ.Pfa
namespace FC
/-- the first k pieces in one -/
def catS (l : List ByteArray) (k : Nat) : ByteArray := (l.take k).foldl (· ++ ·) ByteArray.empty
theorem catS_zero (l : List ByteArray) : catS l 0 = ByteArray.empty := rfl
theorem catS_succ (l : List ByteArray) (k : Nat) (h : k < l.length) : catS l (k + 1) = catS l k ++ l.getD k ByteArray.empty := by
  unfold catS
  rw [List.take_succ_eq_append_getElem h, List.foldl_append, List.getD_eq_getElem?_getD, List.getElem?_eq_getElem h]
  rfl
def sizeS (l : List ByteArray) : Nat := (l.map (·.size)).sum
theorem catS_size (l : List ByteArray) (k : Nat) : (catS l k).size ≤ sizeS l := by
  have key : ∀ (l : List ByteArray) (a : ByteArray), (l.foldl (· ++ ·) a).size = a.size + sizeS l := by
    intro l
    induction l with
    | nil => intro a; simp [sizeS]
    | cons x l ih => intro a; rw [List.foldl_cons, ih, ByteArray.size_append]; simp [sizeS]; omega
  have h2 : sizeS (l.take k) ≤ sizeS l := by
    have : sizeS l = sizeS (l.take k) + sizeS (l.drop k) := by
      unfold sizeS
      rw [← List.sum_append, ← List.map_append, List.take_append_drop]
    omega
  unfold catS
  rw [key]
  have : ByteArray.empty.size = 0 := rfl
  omega
theorem catS_all (l : List ByteArray) (k : Nat) (h : l.length ≤ k) : catS l k = catS l l.length := by
  unfold catS
  rw [List.take_of_length_le h, List.take_length]
/-- a row of fields of the call's own -/
def RowF (W : World) (B : Nat) (v : Value) (X : List (ByteArray × ByteArray)) : Prop := Kd.R k46 46 W B (fun _ => True) v (X.map toF)
theorem RowF.sharp {W : World} {B : Nat} {v : Value} {X : List (ByteArray × ByteArray)} (h : RowF W B v X) : Kd.R k46 46 W B (fun k => v.ownBlock = some k) v (X.map toF) :=
  ⟨fun k hk => hk, h.2.imp_ (fun x c hp => by rw [k46_openM hp]; exact k46_mkM _ _ _ x)⟩
theorem RowF.base {W : World} {B : Nat} {v : Value} {X : List (ByteArray × ByteArray)} (h : RowF W B v X) : ∀ q, v.ownBlock = some q → B ≤ q ∧ q < W.heap.size := fun q hq => by
  obtain ⟨inner, ho⟩ := Kd.R_own h
  exact ⟨own_base ho q hq, own_lt ho q hq⟩
theorem RowF.other {W W' : World} {B : Nat} {v : Value} {X : List (ByteArray × ByteArray)} {row : Option Nat} (h : RowF W B v X) (hg : W.grownBy W' row) (hne : ∀ q, v.ownBlock = some q → some q ≠ row) : RowF W' B v X :=
  Kd.R_mono (Kd.R_grown h.sharp hg hne) (fun _ _ => trivial)
theorem RowF.keep {W W' : World} {B g : Nat} {v : Value} {X : List (ByteArray × ByteArray)} (h : RowF W B v X) (hg : g < B) (hk : KeepBut W W' g none) : RowF W' B v X :=
  Kd.R_mono (Kd.R_keep (Kd.R_bound h) hk (fun q hq => by have := hq.2.1; omega)) (fun _ _ => trivial)
theorem RowF.below {W W' : World} {B : Nat} {v : Value} {X : List (ByteArray × ByteArray)} (h : RowF W B v X) (hb : Below W.heap.size W W') : RowF W' B v X := Kd.R_below h hb
theorem RowF.reads {W : World} {B : Nat} {v : Value} {X : List (ByteArray × ByteArray)} (h : RowF W B v X) : ∃ A c, v = .slice A X.length c ∧ X.length ≤ c ∧ Kd.C k46 W A X.length (X.map toF) := by
  have := Kd.R_reads h
  rw [List.length_map] at this
  exact this
theorem rowR_reads {W : World} {B : Nat} {v : Value} {X : List (ByteArray × ByteArray)} (h : Kd.R k35 35 W B (fun _ => True) v (X.map toR)) : ∃ A c, v = .slice A X.length c ∧ X.length ≤ c ∧ Kd.C k35 W A X.length (X.map toR) := by
  have := Kd.R_reads h
  rw [List.length_map] at this
  exact this
theorem isR_keep {w0 W W' : World} {g h : Nat} {s : ByteArray} (hI : IsS98 w0 W g s) (hk : KeepBut W W' h none) (hne : g ≠ h) : IsS98 w0 W' g s := ⟨(hk.2 g hI.lt hne (by simp)).trans hI.1, hI.2⟩
theorem isR_other {w0 W W' : World} {g : Nat} {s : ByteArray} {row : Option Nat} (hI : IsS98 w0 W g s) (hg : W.grownBy W' row) (hne : some g ≠ row) : IsS98 w0 W' g s := hI.grown hg hne
def Dist (a b : Value) : Prop := ∀ q, a.ownBlock = some q → b.ownBlock ≠ some q
theorem Dist.symm {a b : Value} (h : Dist a b) : Dist b a := fun q hq e => h q e hq
theorem Dist.grown {a a1 b : Value} {W : World} {B : Nat} {X : List (ByteArray × ByteArray)} (h : Dist a b) (hat : a1.ownBlock = a.ownBlock ∨ ∃ q, a1.ownBlock = some q ∧ W.heap.size ≤ q) (hb : RowF W B b X) : Dist a1 b := by
  intro q hq hbq
  rcases hat with g | ⟨q2, g, hle⟩
  · exact h q (g ▸ hq) hbq
  · rw [g] at hq
    obtain rfl := Option.some.inj hq
    have := (hb.base _ hbq).2
    omega
theorem Dist.row {a b : Value} (h : Dist a b) : ∀ q, b.ownBlock = some q → some q ≠ a.ownBlock := fun q hq e => h q e.symm hq
theorem far_row {W : World} {B g : Nat} {v : Value} {X : List (ByteArray × ByteArray)} (ho : RowF W B v X) (hg : g < B) : some g ≠ v.ownBlock := fun e => by have := (ho.base g e.symm).1; omega
theorem below_app {w0 W W1 : World} {B : Nat} (h : Below w0.heap.size w0 W) (hb : Below B W W1) (hB : w0.heap.size ≤ B) : Below w0.heap.size w0 W1 := h.trans ⟨hb.os, hb.tape, hb.output, hb.size, fun i hi => hb.block i (Nat.lt_of_lt_of_le hi hB)⟩
theorem keep_size {W W' : World} {g : Nat} (hk : KeepBut W W' g none) : W.heap.size ≤ W'.heap.size := hk.1
theorem str_at {W : World} {A : Addr} {n : Nat} {l : List ByteArray} (h : ReadsOf Value.string ByteArray.empty W (some A) n l) (k : Nat) (hk : k < n) : W.cell? (A.add k) = some (.string (l.getD k ByteArray.empty)) := by
  obtain ⟨ad, e, c⟩ := h.at_ k (by omega) (by omega)
  obtain rfl := Option.some.inj e
  simpa only [rdOf, Int.toNat_natCast] using c
theorem info_fld : (Tryd.prog.info? 46).map (fun i => (i.zero, i.size, i.bytes)) = some (some (.agg #[.string ByteArray.empty, .string ByteArray.empty]), 2, 32) := by kernel_rfl
theorem app_flds {ops : Array Oper} {rest : List Oper} {o : Oper} {a : Act} {Q : Exit → Act → World → Prop} {W : World} (B : Nat) (hgd : o.guard = none) (s x : Operand)
    (ho : o.op = .call { callee := .builtin .append, args := #[s, x], argTypes := #[30, 30] })
    (v : Value) (X Z : List (ByteArray × ByteArray)) (A1 : Option Addr) (m c : Nat) (hs : a.eval s = v) (hx : a.eval x = .slice A1 m c) (HO : RowF W B v X) (HR : Kd.C k46 W A1 m (Z.map toF)) (hB : B ≤ W.heap.size) (hl : X.length + m ≤ 1099511627776)
    (h : ∀ v1 w1, RowF w1 B v1 (X ++ Z) → Below B W w1 → W.grownBy w1 v.ownBlock → (v1.ownBlock = v.ownBlock ∨ ∃ b, v1.ownBlock = some b ∧ W.heap.size ≤ b) → wpList Tryd.prog ops Q rest (a.put o.dst v1) w1) :
    wpList Tryd.prog ops Q (o :: rest) a W := by
  refine Kd.R_append_rows k46 (Rr := k46.K W) (w0 := W) B hgd s x 30 46 _ 32 ho Tryd.underlying30 info_fld rfl (by decide) (by decide) v (X.map toF) (Z.map toF) A1 m c (fun _ => True) (fun _ => False) hs hx HO HR (fun y cs hK => ?_) (fun _ hk => hk.elim) (fun _ _ => trivial) (Below.refl _ _) hB (by rw [List.length_map]; omega) (fun v1 w1 h1 h2 h3 h4 => h v1 w1 ?_ h2 h3 h4)
  · rw [k46_open hK]; exact k46_mkM _ _ _ y
  · unfold RowF; rw [List.map_append]; exact h1
theorem app_flds_g {ops : Array Oper} {rest : List Oper} {o : Oper} {a : Act} {Q : Exit → Act → World → Prop} {W : World} (B : Nat) (hw : Region.wanted o (yielded ops a.tmps) = true) (s x : Operand)
    (ho : o.op = .call { callee := .builtin .append, args := #[s, x], argTypes := #[30, 30] })
    (v : Value) (X Z : List (ByteArray × ByteArray)) (A1 : Option Addr) (m c : Nat) (hs : a.eval s = v) (hx : a.eval x = .slice A1 m c) (HO : RowF W B v X) (HR : Kd.C k46 W A1 m (Z.map toF)) (hB : B ≤ W.heap.size) (hl : X.length + m ≤ 1099511627776)
    (h : ∀ v1 w1, RowF w1 B v1 (X ++ Z) → Below B W w1 → W.grownBy w1 v.ownBlock → (v1.ownBlock = v.ownBlock ∨ ∃ b, v1.ownBlock = some b ∧ W.heap.size ≤ b) → wpList Tryd.prog ops Q rest (a.put o.dst v1) w1) :
    wpList Tryd.prog ops Q (o :: rest) a W := by
  refine wpList_step fun K hK => ?_
  refine Kd.R_append_rows_step k46 (Rr := k46.K W) (w0 := W) B hw s x 30 46 _ 32 ho Tryd.underlying30 info_fld rfl (by decide) (by decide) v (X.map toF) (Z.map toF) A1 m c (fun _ => True) (fun _ => False) hs hx HO HR (fun y cs hC => ?_) (fun _ hk => hk.elim) (fun _ _ => trivial) (Below.refl _ _) hB (by rw [List.length_map]; omega) (fun v1 w1 h1 h2 h3 h4 => hK _ _ (h v1 w1 ?_ h2 h3 h4))
  · rw [k46_open hC]; exact k46_mkM _ _ _ y
  · unfold RowF; rw [List.map_append]; exact h1
/-- a row of the document's fields -/
def RowR (W : World) (B : Nat) (v : Value) (X : List (ByteArray × ByteArray)) : Prop := Kd.R k35 35 W B (fun _ => True) v (X.map toR)
theorem RowR.sharp {W : World} {B : Nat} {v : Value} {X : List (ByteArray × ByteArray)} (h : RowR W B v X) : Kd.R k35 35 W B (fun k => v.ownBlock = some k) v (X.map toR) :=
  ⟨fun k hk => hk, h.2.imp_ (fun x c hp => by rw [k35_openM hp]; exact k35_mkM _ _ _ x)⟩
theorem RowR.base {W : World} {B : Nat} {v : Value} {X : List (ByteArray × ByteArray)} (h : RowR W B v X) : ∀ q, v.ownBlock = some q → B ≤ q ∧ q < W.heap.size := fun q hq => by
  obtain ⟨inner, ho⟩ := Kd.R_own h
  exact ⟨own_base ho q hq, own_lt ho q hq⟩
theorem RowR.other {W W' : World} {B : Nat} {v : Value} {X : List (ByteArray × ByteArray)} {row : Option Nat} (h : RowR W B v X) (hg : W.grownBy W' row) (hne : ∀ q, v.ownBlock = some q → some q ≠ row) : RowR W' B v X :=
  Kd.R_mono (Kd.R_grown h.sharp hg hne) (fun _ _ => trivial)
theorem RowR.keep {W W' : World} {B g : Nat} {v : Value} {X : List (ByteArray × ByteArray)} (h : RowR W B v X) (hg : g < B) (hk : KeepBut W W' g none) : RowR W' B v X :=
  Kd.R_mono (Kd.R_keep (Kd.R_bound h) hk (fun q hq => by have := hq.2.1; omega)) (fun _ _ => trivial)
theorem RowR.below {W W' : World} {B : Nat} {v : Value} {X : List (ByteArray × ByteArray)} (h : RowR W B v X) (hb : Below W.heap.size W W') : RowR W' B v X := Kd.R_below h hb
theorem dist_new {W W' : World} {B B' : Nat} {a b : Value} {X Y : List (ByteArray × ByteArray)} (ha : RowF W B a X) (hb : RowR W' B' b Y) (h : W.heap.size ≤ B') : Dist a b := fun q hq h2 => by
  have h1 := (ha.base q hq).2
  have h3 := (hb.base q h2).1
  omega
/-- what has been told of k texts, and what is kept -/
def RdP (l : List ByteArray) (k : Nat) (X : List (ByteArray × ByteArray)) (K : List UInt8) : Prop := ∃ A, Opn A ∧ (38 : UInt8) ∉ K ∧ (catS l k).data.toList = A ++ K ∧ X = FL A
def RdAt (l : List ByteArray) (w0 : World) (B g k : Nat) (X : List (ByteArray × ByteArray)) (v : Value) (W : World) : Prop :=
  ∃ K, RdP l k X K ∧ IsS98 w0 W g (ba K) ∧ RowF W B v X
theorem RdAt.keep {l : List ByteArray} {w0 W W' : World} {B g k h : Nat} {X : List (ByteArray × ByteArray)} {v : Value} (t : RdAt l w0 B g k X v W) (hk : KeepBut W W' h none) (hne : g ≠ h) (hB : h < B) : RdAt l w0 B g k X v W' := by
  obtain ⟨K, h1, h2, h3⟩ := t
  exact ⟨K, h1, isR_keep h2 hk hne, h3.keep hB hk⟩
theorem RdAt.other {l : List ByteArray} {w0 W W' : World} {B g k : Nat} {X : List (ByteArray × ByteArray)} {v : Value} {row : Option Nat} (t : RdAt l w0 B g k X v W) (hg : W.grownBy W' row) (h1 : some g ≠ row) (h2 : ∀ q, v.ownBlock = some q → some q ≠ row) : RdAt l w0 B g k X v W' := by
  obtain ⟨K, h3, h4, h5⟩ := t
  exact ⟨K, h3, h4.grown hg h1, h5.other hg h2⟩
theorem RdAt.below {l : List ByteArray} {w0 W W' : World} {B g k : Nat} {X : List (ByteArray × ByteArray)} {v : Value} (t : RdAt l w0 B g k X v W) (hb : Below W.heap.size W W') : RdAt l w0 B g k X v W' := by
  obtain ⟨K, h3, h4, h5⟩ := t
  exact ⟨K, h3, h4.below hb, h5.below hb⟩
theorem RdAt.stay {l : List ByteArray} {w0 W : World} {B g k : Nat} {X : List (ByteArray × ByteArray)} {v : Value} (t : RdAt l w0 B g k X v W) (h : l.length ≤ k) : RdAt l w0 B g (k + 1) X v W := by
  obtain ⟨K, ⟨A, h1, h2, h3, h4⟩, h5, h6⟩ := t
  have e1 : catS l (k + 1) = catS l k := by rw [catS_all l k h, catS_all l (k + 1) (by omega)]
  exact ⟨K, ⟨A, h1, h2, e1 ▸ h3, h4⟩, h5, h6⟩
theorem RdP.stay {l : List ByteArray} {k : Nat} {X : List (ByteArray × ByteArray)} {K : List UInt8} {p : ByteArray} (h : ∃ A, Opn A ∧ (38 : UInt8) ∉ K ∧ p.data.toList = A ++ K ∧ X = FL A) (e : catS l (k + 1) = p) : RdP l (k + 1) X K := by
  obtain ⟨A, h1, h2, h3, h4⟩ := h
  exact ⟨A, h1, h2, by rw [e]; exact h3, h4⟩
theorem RdP.len {l : List ByteArray} {k : Nat} {X : List (ByteArray × ByteArray)} {K : List UInt8} (h : RdP l k X K) : X.length ≤ (catS l k).size + 1 ∧ K.length ≤ (catS l k).size := by
  obtain ⟨A, h1, h2, h3, rfl⟩ := h
  have := FL_len A
  have hz := data_length (catS l k)
  rw [h3, List.length_append] at hz
  omega
/-- a text more -/
theorem rd_call (l : List ByteArray) (w0 : World) (B g k : Nat) (X : List (ByteArray × ByteArray)) (v : Value) (W0 : World) (hlt : k < l.length) (hs : sizeS l ≤ 1048576) (T : TabM w0) (t : RdAt l w0 B g k X v W0) :
    ∃ (s : ByteArray) (Z : List (ByteArray × ByteArray)) (K' : List UInt8), IsS98 w0 W0 g s ∧ X.length + Z.length ≤ 1048577 ∧ (catS l k).size + (l.getD k ByteArray.empty).size ≤ 1048576 ∧ catS l k ++ l.getD k ByteArray.empty = catS l (k + 1) ∧ RdP l (k + 1) (X ++ Z) K' ∧
      (∀ W, IsS98 w0 W g s → Below w0.heap.size w0 W → Calls Tryd.prog 28 #[.pointer (some ⟨g, 0, none⟩), .string (l.getD k ByteArray.empty)] W fun e w' => ∃ (v : Value), e = .returned v ∧ RowF w' W.heap.size v Z ∧ IsS98 w0 w' g (ba K') ∧ Below w0.heap.size w0 w' ∧ KeepBut W w' g none) := by
  obtain ⟨K, ⟨A, h1, h2, h3, h4⟩, h5, h6⟩ := t
  have hsu := catS_succ l k hlt
  have hz := catS_size l (k + 1)
  have hza : (catS l k ++ l.getD k ByteArray.empty).size = (catS l k).size + (l.getD k ByteArray.empty).size := ByteArray.size_append
  rw [← hsu] at hza
  have hzl := data_length (catS l k)
  rw [h3, List.length_append] at hzl
  obtain ⟨Z, A', K', g1, g2, g3, g4, g5⟩ := feed_any A K (l.getD k ByteArray.empty) h1 h2 (by omega)
  have hp : RdP l (k + 1) (X ++ Z) K' := by
    refine ⟨A', g1, g2, ?_, by rw [h4, g4]⟩
    rw [hsu, ← g3, ← h3]
    have := ba_data_app (catS l k).data.toList (l.getD k ByteArray.empty)
    rw [data_ba] at this
    exact this
  refine ⟨ba K, Z, K', h5, ?_, by omega, hsu.symm, hp, fun W hI hB => g5 g w0 W hI hB T⟩
  have := hp.len.1
  rw [List.length_append] at this
  omega
/-- what is sure, by the document -/
theorem rd_sure (l : List ByteArray) (k : Nat) (X : List (ByteArray × ByteArray)) (K : List UInt8) (hs : sizeS l ≤ 1048576) (h : RdP l k X K) :
    ∃ n : Nat, n ≤ (catS l k).size ∧ (∀ W, Calls Tryd.prog 30 #[.string (catS l k)] W fun e w' => ∃ v : Value, e = .returned (.tuple #[v, .int .i64 (n : Int)]) ∧ Below W.heap.size W w') ∧
      (∀ W, Calls Tryd.prog 30 #[.string ((catS l k).extract 0 n)] W fun e w' => ∃ (v : Value) (m : Int), e = .returned (.tuple #[v, .int .i64 m]) ∧ Kd.R k35 35 w' W.heap.size (fun _ => True) v (X.map toR) ∧ Below W.heap.size W w') := by
  obtain ⟨A, h1, h2, h3, rfl⟩ := h
  have hz := catS_size l k
  have hzl := data_length (catS l k)
  have hlb := lastB_at A K h1 h2 _ h3
  rw [h3, List.length_append] at hzl
  refine ⟨A.length, by omega, fun W => ?_, fun W => ?_⟩
  · have := posternref03_Fields.calls 2147483648 (catS l k) _ _ W (RFields_is _ (by omega) _ (by omega))
    rw [hlb] at this
    exact this.mono fun e w' ⟨v, h1, h2, h3⟩ => ⟨v, h1, h3⟩
  · have hx : (catS l k).extract 0 A.length = ba A := by rw [ext_ba, h3, List.drop_zero, Nat.sub_zero, List.take_left]
    rw [hx]
    have hb := ba_size A
    have := posternref03_Fields.calls 2147483648 (ba A) _ _ W (RFields_is _ (by omega) _ (by omega))
    rw [fieldsB_FL, ba_data] at this
    exact this.mono fun e w' ⟨v, h1, h2, h3⟩ => ⟨v, _, h1, h2, h3⟩
theorem rd_end (l : List ByteArray) (w0 : World) (B g k : Nat) (X : List (ByteArray × ByteArray)) (v : Value) (W0 : World) (hs : sizeS l ≤ 1048576) (T : TabM w0) (t : RdAt l w0 B g k X v W0) :
    ∃ (s : ByteArray) (Z : List (ByteArray × ByteArray)), IsS98 w0 W0 g s ∧ X.length + Z.length ≤ 2097154 ∧
      (∀ W, IsS98 w0 W g s → Below w0.heap.size w0 W → Calls Tryd.prog 29 #[.pointer (some ⟨g, 0, none⟩)] W fun e w' => ∃ (v : Value), e = .returned v ∧ RowF w' W.heap.size v Z ∧ IsS98 w0 w' g (ba []) ∧ Below w0.heap.size w0 w' ∧ KeepBut W w' g none) ∧
      (∀ W, Calls Tryd.prog 30 #[.string (catS l k)] W fun e w' => ∃ (v : Value) (m : Int), e = .returned (.tuple #[v, .int .i64 m]) ∧ Kd.R k35 35 w' W.heap.size (fun _ => True) v ((X ++ Z).map toR) ∧ Below W.heap.size W w') := by
  obtain ⟨K, h, h5, h6⟩ := t
  have hlen := h.len
  obtain ⟨A, h1, h2, h3, rfl⟩ := h
  have hz := catS_size l k
  have hfl := FL_len K
  refine ⟨ba K, FL K, h5, by omega, fun W hI hB => end_any K (by omega) g w0 W hI hB T, fun W => ?_⟩
  have := posternref03_Fields.calls 2147483648 (catS l k) _ _ W (RFields_is _ (by omega) _ (by omega))
  rw [fieldsB_FL, h3, FL_app A K h1] at this
  exact this.mono fun e w' ⟨v, h1, h2, h3⟩ => ⟨v, _, h1, h2, h3⟩
theorem same_any (X : List (ByteArray × ByteArray)) (hX : X.length ≤ 1073741824) (Aa Ab : Option Addr) (ca cb : Nat) (W : World) (ha : Kd.C k46 W Aa X.length (X.map toF)) (hca : X.length ≤ ca) (hb : Kd.C k35 W Ab X.length (X.map toR)) (hcb : X.length ≤ cb) :
    Calls Tryd.prog 23 #[.slice Aa X.length ca, .slice Ab X.length cb] W fun e w' => e = .returned (.bool true) ∧ Drawn0 W w' := by
  have h := posternlaw03_fields.calls 2147483648 Aa ca (X.map toF) Ab cb (X.map toR) true W (by rw [List.length_map]; exact ha) (by rw [List.length_map]; exact hca) (by rw [List.length_map]; exact hb) (by rw [List.length_map]; exact hcb) (fields_is X hX _ (by omega))
  rw [List.length_map, List.length_map] at h
  exact h
end FC
end Go.Proofs.YtfbgmlophkbejaaDoor
