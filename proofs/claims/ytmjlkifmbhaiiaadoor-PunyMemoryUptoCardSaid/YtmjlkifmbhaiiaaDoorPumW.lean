/- PunyMemory: what is left when the program is gone; the walk. -/
import Derived.Test.YtmjlkifmbhaiiaaDoorPum
import Derived.Test.YtmjlkifmbhaiiaaDoorQPmx8
import Derived.Test.YtmjlkifmbhaiiaaDoorQPmx7
import Derived.Test.YtmjlkifmbhaiiaaDoorQPmx3
import Derived.Test.YtmjlkifmbhaiiaaDoorQPmx0
set_option linter.unusedVariables false
set_option linter.unusedSimpArgs false
namespace Go.Proofs.YtmjlkifmbhaiiaaDoor.V
open Go.RowKit Go.Proofs.YtmjlkifmbhaiiaaDoorW.PrintWords Go.Proofs.YtmjlkifmbhaiiaaDoorW.PrintLast Go.Proofs.YtmjlkifmbhaiiaaDoorQ.Pm
theorem C_of_ints {k : IntKind} {w : World} {A : Option Addr} {n : Nat} {l : List Int} (h : ReadsInt w k A n l) : Kd.C (Kd.int k) w A n l := Kd.C_of_reads (enc := Value.int k) (d := (0 : Int)) (h1 := fun _ => rfl) h
theorem same_l0 (l : List Int) (hl : l.length ≤ 16777216) : ∀ (m : Nat) (i : Int) (k : Nat), 0 ≤ i → (l.length : Int) = i + m → m + 1 ≤ k → posternlaw14_same.l0 k l l l.length i = some true := by
  intro m
  induction m with
  | zero =>
    intro i k h0 h1 hk
    obtain ⟨k, rfl⟩ : ∃ m, k = m + 1 := ⟨k - 1, by omega⟩
    rw [posternlaw14_same.l0, if_neg (by omega)]
  | succ m ih =>
    intro i k h0 h1 hk
    obtain ⟨k, rfl⟩ : ∃ m, k = m + 1 := ⟨k - 1, by omega⟩
    rw [posternlaw14_same.l0, if_pos (by omega), if_pos h0, if_pos (by omega), if_pos (by omega), if_pos rfl, w64 (i + 1) (by omega) (by omega)]
    exact ih (i + 1) k (by omega) (by omega) (by omega)
theorem same_is (k : Nat) (l : List Int) (hl : l.length ≤ 16777216) (hk : 16777217 ≤ k) : posternlaw14_same.f k l l = some true := by
  unfold posternlaw14_same.f
  rw [if_pos rfl]
  exact same_l0 l hl l.length 0 k (by omega) (by omega) (by omega)
theorem PDec_is (s : ByteArray) (hs : s.size ≤ 268435456) : puny_Decode.f s = some (dec usual (bytesOf s)) := by
  unfold puny_Decode.f puny_Usual.f
  simp only [Option.bind_some]
  have e : puny_boot_decode.f 36 1 26 38 700 72 128 45 s = some (dec usual (bytesOf s)) := by
    unfold puny_boot_decode.f decF
    rw [if_pos ⟨ok_okB usual_ok, hs⟩]
    rfl
  rw [e]
  rfl
theorem encG_len (x : List Int) (hx : ∀ r ∈ x, 0 ≤ r ∧ r ≤ 1114111) (basic : Int) : ∀ (f : Nat) (out : List Int) (n delta bias h : Int) (res : List Int), h = cnt n x → 0 ≤ n → 0 ≤ delta → 0 ≤ bias → bias ≤ 1099511627776 → (∀ y ∈ out, 0 ≤ y ∧ y ≤ 127) → (out.length : Int) ≤ 1048577 + 11 * h → encG usual basic x f out n delta bias h = some res → (res.length : Int) ≤ 1048577 + 11 * x.length ∧ ∀ y ∈ res, 0 ≤ y ∧ y ≤ 127 := by
  intro f
  induction f with
  | zero => intro out n delta bias h res _ _ _ _ _ _ _ hs; rw [encG] at hs; cases hs
  | succ f ih =>
    intro out n delta bias h res hh hn0 h1 h3 h4 ho hol hs
    have hc := cnt_le n x
    by_cases hd : (x.length : Int) ≤ h
    · rw [encG, if_pos hd] at hs
      injection hs with hs
      subst hs
      exact ⟨by omega, ho⟩
    rw [encG, if_neg hd] at hs
    obtain ⟨-, t2, t3⟩ := nxtM_two n x (fun r hr => (hx r hr).2) (cnt_ex (by omega))
    obtain ⟨s1, s2, s3⟩ := nxtM_spec n x 1114112
    generalize nxtM n x 1114112 = m at *
    have hP : 0 ≤ (m - n) * (h + 1) := Int.mul_nonneg (by omega) (by omega)
    by_cases hov : 2147483647 < delta + (m - n) * (h + 1)
    · rw [if_pos hov] at hs; cases hs
    rw [if_neg hov] at hs
    rcases hsc : scan usual m basic x out (delta + (m - n) * (h + 1)) bias h with _ | ⟨o, d, b, h'⟩
    · rw [hsc] at hs; cases hs
    rw [hsc] at hs
    have hs2 : encG usual basic x f o (m + 1) (d + 1) b h' = some res := hs
    have hcm : cnt m x = h := by rw [cnt_same t3 s2]; exact hh.symm
    have hcs := cnt_succ m x
    obtain ⟨e1, e2, e3, e4, e5, e6, e7⟩ := scan_ok m basic x out (delta + (m - n) * (h + 1)) bias h o d b h' (by omega) (by omega) h3 h4 (by omega) ho hsc
    exact ih o (m + 1) (d + 1) b h' res (by omega) (by omega) (by omega) e3 e4 e7 (by omega) hs2
theorem enc_len (l : List Int) (hl : l.length ≤ 1048576) : (enc usual l).1.length ≤ 16777216 ∧ ∀ y ∈ (enc usual l).1, 0 ≤ y ∧ y ≤ 127 := by
  by_cases hb : 0 ≤ fstB (fun r => !scl r) l 0
  · have e : enc usual l = ([], fstB (fun r => !scl r) l 0, 20) := by
      unfold enc
      rw [chk_us, if_pos hb, if_pos (by simp)]
    rw [e]
    exact ⟨by simp, fun y hy => by simp at hy⟩
  have e : ∀ E, encG usual (bs l).length l (l.length + 1) (if bs l = [] then [] else bs l ++ [45]) 128 0 72 (bs l).length = E → enc usual l = (match E with
    | none => ([], 0, 142)
    | some out => if (dec usual out).2.2 = 0 then (out, 0, 0) else ([], 0, 142)) := by
    intro E hE
    unfold enc
    rw [chk_us, if_neg hb, if_neg (by simp), ← hE]
    rfl
  rcases hE : encG usual (bs l).length l (l.length + 1) (if bs l = [] then [] else bs l ++ [45]) 128 0 72 (bs l).length with _ | out
  · rw [e _ hE]
    exact ⟨by simp, fun y hy => by simp at hy⟩
  rw [e _ hE]
  simp only
  have ha := all_scl hb
  obtain ⟨b1, b2, b3, b4⟩ := bs_ok ha hl
  obtain ⟨g1, g2⟩ := encG_len l (fun r hr => scl_range (ha r hr)) _ _ _ 128 0 72 _ out b3 (by omega) (by omega) (by omega) (by omega) b1 b2 hE
  by_cases hd : (dec usual out).2.2 = 0
  · rw [if_pos hd]
    exact ⟨by show out.length ≤ _; omega, g2⟩
  · rw [if_neg hd]
    exact ⟨by simp, fun y hy => by simp at hy⟩
theorem mem_l0 (l b : List Int) (s : ByteArray) (n : Nat) (hn : n ≤ 1048576) : ∀ (m i : Nat) (x : List Int) (k : Nat), n = i + m → x.length = n → (∀ j : Nat, j < i → rd x (j : Nat) = -5) → m + 1 ≤ k → ∃ (k' : Nat) (x' : List Int), k ≤ k' + m + 1 ∧ x'.length = n ∧ (∀ j : Nat, j < n → rd x' (j : Nat) = -5) ∧ posternlaw14_PunyMemory.l0 k l s x b n i = posternlaw14_PunyMemory.l1 k' l s x' b 0 := by
  intro m
  induction m with
  | zero =>
    intro i x k hi hx hj hk
    obtain ⟨k, rfl⟩ : ∃ m, k = m + 1 := ⟨k - 1, by omega⟩
    refine ⟨k, x, by omega, hx, fun j h => hj j (by omega), ?_⟩
    rw [posternlaw14_PunyMemory.l0, if_neg (by omega)]
  | succ m ih =>
    intro i x k hi hx hj hk
    obtain ⟨k, rfl⟩ : ∃ m, k = m + 1 := ⟨k - 1, by omega⟩
    obtain ⟨k', x', g1, g2, g3, g4⟩ := ih (i + 1) (x.set i (-5)) k (by omega) (by simpa using hx) (fun j h => by
      by_cases e : j = i
      · subst e
        simp [rd, List.getD_eq_getElem?_getD, List.getElem?_set, show j < x.length by omega]
      · have := hj j (by omega)
        simp only [rd, List.getD_eq_getElem?_getD, Int.toNat_natCast] at this ⊢
        rw [List.getElem?_set_ne (by omega)]
        exact this) (by omega)
    refine ⟨k', x', by omega, g2, g3, ?_⟩
    rw [posternlaw14_PunyMemory.l0, if_pos (by omega), if_pos (by omega), if_pos (by omega), Int.toNat_natCast, w64 ((i : Int) + 1) (by omega) (by omega)]
    exact g4
theorem mem_l1 (l b : List Int) (s : ByteArray) (n : Nat) (hn : n ≤ 1048576) : ∀ (m i : Nat) (x : List Int) (k : Nat), 9 = i + m → x.length = n + i → (∀ j : Nat, j < n → rd x (j : Nat) = -5) → m + 1 ≤ k → ∃ (k' : Nat) (x' : List Int), k ≤ k' + m + 1 ∧ x'.length = n + 9 ∧ (∀ j : Nat, j < n → rd x' (j : Nat) = -5) ∧ posternlaw14_PunyMemory.l1 k l s x b i = (posternlaw14_same.f k' b l).bind fun t => (if t = true then (posternlaw14_PunyMemory.l2 k' l s x' n 0) else (some false)) := by
  intro m
  induction m with
  | zero =>
    intro i x k hi hx hj hk
    obtain ⟨k, rfl⟩ : ∃ m, k = m + 1 := ⟨k - 1, by omega⟩
    refine ⟨k, x, by omega, by omega, hj, ?_⟩
    rw [posternlaw14_PunyMemory.l1, if_neg (by omega), w64 ((x.length : Int) - 9) (by omega) (by omega), show (x.length : Int) - 9 = (n : Int) by omega]
  | succ m ih =>
    intro i x k hi hx hj hk
    obtain ⟨k, rfl⟩ : ∃ m, k = m + 1 := ⟨k - 1, by omega⟩
    obtain ⟨k', x', g1, g2, g3, g4⟩ := ih (i + 1) (x ++ [-4]) k (by omega) (by simp; omega) (fun j h => by
      have := hj j h
      simp only [rd, List.getD_eq_getElem?_getD, Int.toNat_natCast] at this ⊢
      rw [List.getElem?_append_left (by omega)]
      exact this) (by omega)
    refine ⟨k', x', by omega, g2, g3, ?_⟩
    rw [posternlaw14_PunyMemory.l1, if_pos (by omega), if_pos (by omega), w64 ((i : Int) + 1) (by omega) (by omega)]
    exact g4
theorem mem_l2 (l x : List Int) (s : ByteArray) (n : Nat) (hn : n ≤ 1048576) (hx : x.length = n + 9) (hj : ∀ j : Nat, j < n → rd x (j : Nat) = -5) (hd : ∃ e, puny_Decode.f s = some (l, e)) (hl : l.length ≤ 1048576) : ∀ (m i : Nat) (k : Nat), n = i + m → m + 20000000 ≤ k → posternlaw14_PunyMemory.l2 k l s x n i = some true := by
  intro m
  induction m with
  | zero =>
    intro i k hi hk
    obtain ⟨k, rfl⟩ : ∃ m, k = m + 1 := ⟨k - 1, by omega⟩
    obtain ⟨e, he⟩ := hd
    rw [posternlaw14_PunyMemory.l2, if_neg (by omega), he]
    simp only [Option.bind_some]
    rw [same_is k l (by omega) (by omega)]
    rfl
  | succ m ih =>
    intro i k hi hk
    obtain ⟨k, rfl⟩ : ∃ m, k = m + 1 := ⟨k - 1, by omega⟩
    rw [posternlaw14_PunyMemory.l2, if_pos (by omega), if_pos (by omega), if_pos (by omega), if_pos (hj i (by omega)), w64 ((i : Int) + 1) (by omega) (by omega)]
    exact ih (i + 1) k (by omega) (by omega)
theorem memory_f (K : Nat) (hK : 600000000000000 ≤ K) (haw : posternlaw14_awake.f K = some true) (l : List Int) (hl : l.length ≤ 1048576) : posternlaw14_PunyMemory.f K l = some true := by
  unfold posternlaw14_PunyMemory.f
  rw [haw]
  simp only [Option.bind_some, if_true]
  rw [REnc_is l hl K hK]
  simp only [Option.bind_some]
  by_cases h : (encP l).2.2 = 0
  · rw [if_pos h]
    have h' : (enc usual l).2.2 = 0 := h
    obtain ⟨z1, z2⟩ := enc_len l hl
    have hd : puny_Decode.f (encP l).1 = some (l, 0, 0) := by
      rw [PDec_is _ (by show (strOfNums (enc usual l).1).size ≤ _; rw [strOfNums_size]; omega)]
      show some (dec usual (bytesOf (strOfNums (enc usual l).1))) = _
      rw [bytesOf_strOfNums _ (r255 z2), back l h']
    rw [hd]
    simp only [Option.bind_some]
    obtain ⟨k1, x1, a1, a2, a3, a4⟩ := mem_l0 l l (encP l).1 l.length hl l.length 0 l K (by omega) rfl (fun j h => by omega) (by omega)
    obtain ⟨k2, x2, b1, b2, b3, b4⟩ := mem_l1 l l (encP l).1 l.length hl 9 0 x1 k1 (by omega) (by omega) a3 (by omega)
    have a4' : posternlaw14_PunyMemory.l0 K l (encP l).1 l l l.length 0 = _ := a4
    have b4' : posternlaw14_PunyMemory.l1 k1 l (encP l).1 x1 l 0 = _ := b4
    rw [a4', b4', same_is k2 l (by omega) (by omega)]
    simp only [Option.bind_some, if_true]
    exact mem_l2 l x2 (encP l).1 l.length hl b2 b3 ⟨_, hd⟩ hl l.length 0 k2 (by omega) (by omega)
  · rw [if_neg h]
theorem punyMemory_any (l : List Int) (A : Option Addr) (c : Nat) (w : World) (R : ReadsInt w .i32 A l.length l) (hc : l.length ≤ c) (hl : l.length ≤ 1048576) (T : Tabs w) :
    Calls Tryd.prog 5 #[.slice A l.length c] w fun e w' => e = .returned (.bool true) ∧ Below w.heap.size w w' :=
  posternlaw14_PunyMemory.calls 1125899906842624 A c l true w (C_of_ints R) hc (memory_f _ (by omega) awake2 l hl) T
end Go.Proofs.YtmjlkifmbhaiiaaDoor.V
