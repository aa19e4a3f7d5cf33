/- Puny: PunyUsual: by the usual parameters both are Encode and Decode; by any, what was encoded is decoded again. -/
import Derived.Test.YtmjlkifmbhaiiaaDoorPguC
import Derived.Test.YtmjlkifmbhaiiaaDoorQPux5
import Derived.Test.YtmjlkifmbhaiiaaDoorQPux3
import Derived.Test.YtmjlkifmbhaiiaaDoorQPux2
import Derived.Test.YtmjlkifmbhaiiaaDoorQPux0
import Derived.Test.YtmjlkifmbhaiiaaDoorQPux4
set_option linter.unusedVariables false
set_option linter.unusedSimpArgs false
namespace Go.Proofs.YtmjlkifmbhaiiaaDoor.V
open Go.RowKit Go.Proofs.YtmjlkifmbhaiiaaDoorW.PrintWords Go.Proofs.YtmjlkifmbhaiiaaDoorW.PrintLast Go.Proofs.YtmjlkifmbhaiiaaDoorQ.Pu
theorem C_of_ints {k : IntKind} {w : World} {A : Option Addr} {n : Nat} {l : List Int} (h : ReadsInt w k A n l) : Kd.C (Kd.int k) w A n l := Kd.C_of_reads (enc := Value.int k) (d := (0 : Int)) (h1 := fun _ => rfl) h
theorem same_l0 (l : List Int) (hl : l.length ≤ 16777216) : ∀ (m : Nat) (i : Int) (k : Nat), 0 ≤ i → (l.length : Int) = i + m → m + 1 ≤ k → posternlaw14_same.l0 k l l l.length i = some true := by
  intro m
  induction m with
  | zero =>
    intro i k h0 h1 hk
    obtain ⟨k, rfl⟩ : ∃ m, k = m + 1 := ⟨k - 1, by omega⟩
    rw [posternlaw14_same.l0, if_neg (by omega)]
  | succ m ih =>
    intro i k h0 h1 hk
    obtain ⟨k, rfl⟩ : ∃ m, k = m + 1 := ⟨k - 1, by omega⟩
    rw [posternlaw14_same.l0, if_pos (by omega), if_pos h0, if_pos (by omega), if_pos (by omega), if_pos rfl, w64 (i + 1) (by omega) (by omega)]
    exact ih (i + 1) k (by omega) (by omega) (by omega)
theorem same_is (k : Nat) (l : List Int) (hl : l.length ≤ 16777216) (hk : 16777217 ≤ k) : posternlaw14_same.f k l l = some true := by
  unfold posternlaw14_same.f
  rw [if_pos rfl]
  exact same_l0 l hl l.length 0 k (by omega) (by omega) (by omega)
theorem encG_len {p : Bt} (hp : p.Ok) (x : List Int) (hx : ∀ r ∈ x, 0 ≤ r ∧ r ≤ 1114111) (basic : Int) : ∀ (f : Nat) (out : List Int) (n delta bias h : Int) (res : List Int), h = cnt n x → 0 ≤ n → 0 ≤ delta → 0 ≤ bias → bias ≤ 10000 → (∀ y ∈ out, 0 ≤ y ∧ y ≤ 127) → (out.length : Int) + pot p bias ≤ 1052000 + 67 * h → encG p basic x f out n delta bias h = some res → (res.length : Int) ≤ 1052000 + 67 * x.length ∧ ∀ y ∈ res, 0 ≤ y ∧ y ≤ 127 := by
  intro f
  induction f with
  | zero => intro out n delta bias h res _ _ _ _ _ _ _ hs; rw [encG] at hs; cases hs
  | succ f ih =>
    intro out n delta bias h res hh hn0 h1 h3 h4 ho hol hs
    have hc := cnt_le n x
    have hpr := pot_rng p bias
    by_cases hd : (x.length : Int) ≤ h
    · rw [encG, if_pos hd] at hs
      injection hs with hs
      subst hs
      exact ⟨by omega, ho⟩
    rw [encG, if_neg hd] at hs
    obtain ⟨-, t2, t3⟩ := nxtM_two n x (fun r hr => (hx r hr).2) (cnt_ex (by omega))
    obtain ⟨s1, s2, s3⟩ := nxtM_spec n x 1114112
    generalize nxtM n x 1114112 = m at *
    have hP : 0 ≤ (m - n) * (h + 1) := Int.mul_nonneg (by omega) (by omega)
    by_cases hov : 2147483647 < delta + (m - n) * (h + 1)
    · rw [if_pos hov] at hs; cases hs
    rw [if_neg hov] at hs
    rcases hsc : scan p m basic x out (delta + (m - n) * (h + 1)) bias h with _ | ⟨o, d, b, h'⟩
    · rw [hsc] at hs; cases hs
    rw [hsc] at hs
    have hs2 : encG p basic x f o (m + 1) (d + 1) b h' = some res := hs
    have hcm : cnt m x = h := by rw [cnt_same t3 s2]; exact hh.symm
    have hcs := cnt_succ m x
    obtain ⟨e1, e2, e3, e4, e5, e6, e7⟩ := scan_ok hp m basic x out (delta + (m - n) * (h + 1)) bias h o d b h' (by omega) (by omega) h3 h4 (by omega) ho hsc
    exact ih o (m + 1) (d + 1) b h' res (by omega) (by omega) (by omega) e3 e4 e7 (by omega) hs2
theorem enc_is {p : Bt} {l : List Int} (hb : ¬ (chk p l).2 ≠ 0) : ∀ E, encG p (bs p l).length l (l.length + 1) (if bs p l = [] then [] else bs p l ++ [p.btw]) p.first 0 p.bias (bs p l).length = E → enc p l = (match E with
    | none => ([], 0, 142)
    | some out => if (dec p out).2.2 = 0 then (out, 0, 0) else ([], 0, 142)) := by
  intro E hE
  unfold enc
  rw [if_neg hb, ← hE]
  rfl
theorem enc_len {p : Bt} (hp : p.Ok) (l : List Int) (hl : l.length ≤ 1048576) : (enc p l).1.length ≤ 80000000 ∧ ∀ y ∈ (enc p l).1, 0 ≤ y ∧ y ≤ 127 := by
  have f0 := hp.first0
  have q0 := hp.bias0
  have q1 := hp.bias1
  by_cases hb : (chk p l).2 ≠ 0
  · unfold enc
    rw [if_pos hb]
    exact ⟨by simp, fun y hy => by simp at hy⟩
  obtain ⟨ha, hc⟩ := chk_good hb
  obtain ⟨b1, b2, b3, b4⟩ := bs_ok hp ha hc hl
  rcases hE : encG p (bs p l).length l (l.length + 1) (if bs p l = [] then [] else bs p l ++ [p.btw]) p.first 0 p.bias (bs p l).length with _ | out
  · rw [enc_is hb _ hE]
    exact ⟨by simp, fun y hy => by simp at hy⟩
  rw [enc_is hb _ hE]
  simp only
  obtain ⟨g1, g2⟩ := encG_len hp l (fun r hr => scl_range (ha r hr)) _ _ _ p.first 0 p.bias _ out b3 (by omega) (by omega) (by omega) (by omega) b1 b2 hE
  by_cases hd : (dec p out).2.2 = 0
  · rw [if_pos hd]
    exact ⟨by show out.length ≤ _; omega, g2⟩
  · rw [if_neg hd]
    exact ⟨by simp, fun y hy => by simp at hy⟩
theorem encP_err {p : Bt} {l : List Int} (h : (encP p l).2.2 ≠ 0) : (encP p l).1 = ⟨#[]⟩ := by
  have h' : (enc p l).2.2 ≠ 0 := h
  have e : (enc p l).1 = [] := by
    by_cases hc : (chk p l).2 ≠ 0
    · unfold enc
      rw [if_pos hc]
    rcases hE : encG p (bs p l).length l (l.length + 1) (if bs p l = [] then [] else bs p l ++ [p.btw]) p.first 0 p.bias (bs p l).length with _ | out
    · rw [enc_is hc _ hE]
    rw [enc_is hc _ hE] at h' ⊢
    simp only at h' ⊢
    by_cases hd : (dec p out).2.2 = 0
    · rw [if_pos hd] at h'; exact absurd rfl h'
    · rw [if_neg hd]
  show strOfNums (enc p l).1 = _
  rw [e]
  rfl
theorem emp_list : (⟨#[]⟩ : ByteArray).toList = [] := by
  rw [ByteArray.toList]
  unfold ByteArray.toList.loop
  rw [if_neg (by decide)]
  rfl
theorem chk_is (p : Bt) (hb : 0 ≤ p.btw ∧ p.btw ≤ 255) : puny_Check.f p.base p.least p.most p.skew p.damp p.bias p.first p.btw = some (if okB p = true then 0 else 144) := by
  unfold puny_Check.f
  rw [if_pos hb]
theorem encBy_is (p : Bt) (hb : 0 ≤ p.btw ∧ p.btw ≤ 255) (l : List Int) (hi : i32B l = true) (hl : l.length ≤ 1048576) (k : Nat) (hk : 2000000000000 ≤ k) : puny_EncodeBy.f k p.base p.least p.most p.skew p.damp p.bias p.first p.btw l = some (if okB p = true then encP p l else (⟨#[]⟩, 0, 144)) := by
  unfold puny_EncodeBy.f
  rw [chk_is p hb]
  simp only [Option.bind_some]
  by_cases h : okB p = true
  · rw [if_pos h, if_pos h, if_pos rfl, penc_is (okB_ok h) l hi hl k hk]
    rfl
  · rw [if_neg h, if_neg h, if_neg (by decide)]
theorem decBy_is (p : Bt) (hb : 0 ≤ p.btw ∧ p.btw ≤ 255) (s : ByteArray) (hs : s.size ≤ 268435456) : puny_DecodeBy.f p.base p.least p.most p.skew p.damp p.bias p.first p.btw s = some (if okB p = true then dec p (bytesOf s) else ([], 0, 144)) := by
  unfold puny_DecodeBy.f
  rw [chk_is p hb]
  simp only [Option.bind_some]
  by_cases h : okB p = true
  · rw [if_pos h, if_pos h, if_pos rfl, pdec_is (okB_ok h) s hs]
    rfl
  · rw [if_neg h, if_neg h, if_neg (by decide)]
/-- what decG answers is of code points, no longer than what it read -/
theorem decG_rng : ∀ (f : Nat) (L : List Int) (a : Int) (out : List Int) (n i b : Int), 0 ≤ n → 0 ≤ i → i ≤ out.length → i ≤ 2147483647 → (out.length : Int) + L.length ≤ 2147483646 → (∀ x ∈ out, 0 ≤ x ∧ x ≤ 1114111) → (∀ x ∈ (decG usual f L a out n i b).1, 0 ≤ x ∧ x ≤ 1114111) ∧ (decG usual f L a out n i b).1.length ≤ out.length + L.length := by
  intro f
  induction f with
  | zero => intro L a out n i b _ _ _ _ _ _; rw [decG]; exact ⟨fun x hx => by simp at hx, by simp⟩
  | succ f ih =>
    intro L a out n i b hn hi0 hi1 hi2 hs ho
    rw [decG]
    by_cases hL : L = []
    · rw [if_pos hL]; exact ⟨ho, by simp⟩
    rw [if_neg hL]
    have hok := num_ok usual_ok b L a i 1 usual.base hi0 hi2 (by omega)
    show (∀ x ∈ (if (num usual b L a i 1 usual.base).1 ≠ 0 then _ else _ : List Int × Int × Int).1, _) ∧ (if (num usual b L a i 1 usual.base).1 ≠ 0 then _ else _ : List Int × Int × Int).1.length ≤ _
    show (∀ x ∈ (let r := num usual b L a i 1 usual.base; _ : List Int × Int × Int).1, _) ∧ (let r := num usual b L a i 1 usual.base; _ : List Int × Int × Int).1.length ≤ _
    generalize num usual b L a i 1 usual.base = r at *
    by_cases hr : r.1 ≠ 0
    · rw [if_pos hr]; exact ⟨fun x hx => by simp at hx, by simp⟩
    rw [if_neg hr]
    obtain ⟨m, m1, m2, m3, m4, m5, m6⟩ := hok (Decidable.not_not.1 hr)
    by_cases hbig : 1114111 < n + r.2.2.1 / ((out.length : Int) + 1)
    · rw [if_pos hbig]; exact ⟨fun x hx => by simp at hx, by simp⟩
    rw [if_neg hbig]
    by_cases hsc : scl (n + r.2.2.1 / ((out.length : Int) + 1)) = false
    · rw [if_pos hsc]; exact ⟨fun x hx => by simp at hx, by simp⟩
    rw [if_neg hsc]
    have hq0 : 0 ≤ r.2.2.1 / ((out.length : Int) + 1) := Int.ediv_nonneg (by omega) (by omega)
    have hm0 : 0 ≤ r.2.2.1 % ((out.length : Int) + 1) := Int.emod_nonneg _ (by omega)
    have hm1 : r.2.2.1 % ((out.length : Int) + 1) < (out.length : Int) + 1 := Int.emod_lt_of_pos _ (by omega)
    have hN : 0 ≤ n + r.2.2.1 / ((out.length : Int) + 1) := by omega
    generalize adp usual (r.2.2.1 - i) ((out.length : Int) + 1) (i == 0) = B
    generalize r.2.2.1 % ((out.length : Int) + 1) = I at *
    generalize n + r.2.2.1 / ((out.length : Int) + 1) = N at *
    have hlen3 : (out.take I.toNat ++ N :: out.drop I.toNat).length = out.length + 1 := by simp only [List.length_append, List.length_take, List.length_cons, List.length_drop]; omega
    have hlen4 : r.2.2.2.length = L.length - m := by rw [m4, List.length_drop]
    obtain ⟨i1, i2⟩ := ih r.2.2.2 r.2.1 (out.take I.toNat ++ N :: out.drop I.toNat) N (I + 1) B hN (by omega) (by omega) (by omega) (by omega) (fun x hx => by
      rcases List.mem_append.1 hx with hx | hx
      · exact ho x (List.mem_of_mem_take hx)
      · rcases List.mem_cons.1 hx with rfl | hx
        · omega
        · exact ho x (List.mem_of_mem_drop hx))
    exact ⟨i1, by omega⟩
theorem dec_rng (s : ByteArray) (hs : s.size ≤ 16777216) : (∀ x ∈ (dec usual (bytesOf s)).1, 0 ≤ x ∧ x ≤ 1114111) ∧ (dec usual (bytesOf s)).1.length ≤ s.size := by
  have hl : (bytesOf s).length = s.size := bytesOf_length s
  have hb : ∀ x ∈ bytesOf s, 0 ≤ x ∧ x ≤ 255 := fun x h => mem_bytesOf h
  unfold dec
  by_cases h : 0 < lastP usual.btw (bytesOf s) 0 0
  · rw [if_pos h]
    by_cases h2 : 0 ≤ fstB (fun b => !bas usual b) ((bytesOf s).take (lastP usual.btw (bytesOf s) 0 0).toNat) 0
    · rw [if_pos h2]; exact ⟨fun x hx => by simp at hx, by simp⟩
    rw [if_neg h2]
    have hL : lastP usual.btw (bytesOf s) 0 0 < s.size := by
      rcases lastP_spec usual.btw (bytesOf s) 0 0 with ⟨h3, -⟩ | ⟨j, h1, -, -, h4⟩ <;> omega
    generalize lastP usual.btw (bytesOf s) 0 0 = d at *
    have e1 : ((bytesOf s).take d.toNat).length = d.toNat := by rw [List.length_take]; omega
    have e2 : ((bytesOf s).drop (d + 1).toNat).length = s.size - (d + 1).toNat := by rw [List.length_drop]; omega
    obtain ⟨i1, i2⟩ := decG_rng ((bytesOf s).length + 1) ((bytesOf s).drop (d + 1).toNat) (d + 1) ((bytesOf s).take d.toNat) usual.first 0 usual.bias (by simp [usual]) (by omega) (by omega) (by omega) (by omega) (fun x hx => by have := hb x (List.mem_of_mem_take hx); omega)
    exact ⟨i1, by omega⟩
  · rw [if_neg h]
    obtain ⟨i1, i2⟩ := decG_rng ((bytesOf s).length + 1) (bytesOf s) 0 [] usual.first 0 usual.bias (by simp [usual]) (by omega) (by simp) (by omega) (by simp only [List.length_nil]; omega) (fun x hx => by simp at hx)
    exact ⟨i1, by simp only [List.length_nil] at i2; omega⟩
theorem usual_f (K : Nat) (hK : 600000000000000 ≤ K) (haw : posternlaw14_awake.f K = some true) (p : Bt) (hb : 0 ≤ p.btw ∧ p.btw ≤ 255) (l : List Int) (hi : i32B l = true) (hl : l.length ≤ 1048576) (s : ByteArray) (hs : s.size ≤ 1048576) : posternlaw14_PunyUsual.f K p.base p.least p.most p.skew p.damp p.bias p.first p.btw l s = some true := by
  obtain ⟨K, rfl⟩ : ∃ m, K = m + 2 := ⟨K - 2, by omega⟩
  have hU : puny_Usual.f = some (36, 1, 26, 38, 700, 72, 128, 45) := rfl
  have hj1 : posternlaw14_PunyUsual.j1 (K + 1) l false p.base p.least p.most p.skew p.damp p.bias p.first p.btw = some true := by
    rw [posternlaw14_PunyUsual.j1, if_neg (by simp), encBy_is p hb l hi hl K (by omega)]
    simp only [Option.bind_some]
    by_cases h : okB p = true
    · rw [if_pos h]
      by_cases h2 : (encP p l).2.2 = 0
      · obtain ⟨z1, z2⟩ := enc_len (okB_ok h) l hl
        have e : dec p (bytesOf (encP p l).1) = (l, 0, 0) := by
          show dec p (bytesOf (strOfNums (enc p l).1)) = _
          rw [bytesOf_strOfNums _ (r255 z2), back (okB_ok h) l h2]
        rw [if_pos h2, decBy_is p hb _ (by show (strOfNums (enc p l).1).size ≤ _; rw [strOfNums_size]; omega), if_pos h, e]
        simp only [Option.bind_some]
        rw [same_is K l (by omega) (by omega)]
        rfl
      · rw [if_neg h2, encP_err h2, emp_list]
        rfl
    · rw [if_neg h, if_neg (by simp)]
      simp only [emp_list]
      rfl
  unfold posternlaw14_PunyUsual.f
  rw [haw, hU]
  simp only [Option.bind_some, if_true]
  show posternlaw14_PunyUsual.j0 (K + 2) l s false p.base p.least p.most p.skew p.damp p.bias p.first p.btw = some true
  have e1 : puny_Encode.f (K + 1) l = some (encP usual l) := by
    unfold puny_Encode.f
    rw [hU]
    simp only [Option.bind_some]
    have := penc_is usual_ok l hi hl (K + 1) (by omega)
    rw [show puny_boot_encode.f (K + 1) 36 1 26 38 700 72 128 45 l = some (encP usual l) from this]
    rfl
  have e2 : puny_EncodeBy.f (K + 1) 36 1 26 38 700 72 128 45 l = some (encP usual l) := by
    have := encBy_is usual (by decide) l hi hl (K + 1) (by omega)
    rw [if_pos (ok_okB usual_ok)] at this
    exact this
  have e3 : puny_Decode.f s = some (dec usual (bytesOf s)) := by
    unfold puny_Decode.f
    rw [hU]
    simp only [Option.bind_some]
    have := pdec_is usual_ok s (by omega)
    rw [show puny_boot_decode.f 36 1 26 38 700 72 128 45 s = some (dec usual (bytesOf s)) from this]
    rfl
  have e4 : puny_DecodeBy.f 36 1 26 38 700 72 128 45 s = some (dec usual (bytesOf s)) := by
    have := decBy_is usual (by decide) s (by omega)
    rw [if_pos (ok_okB usual_ok)] at this
    exact this
  have hdl := (dec_rng s (by omega)).2
  rw [posternlaw14_PunyUsual.j0, if_neg (by simp), e1, hU]
  simp only [Option.bind_some]
  rw [e2, e3]
  simp only [Option.bind_some]
  rw [e4]
  simp only [Option.bind_some]
  simp only [if_true]
  rw [same_is (K + 1) _ (by omega) (by omega)]
  simp only [Option.bind_some, if_true, bne_self_eq_false]
  exact hj1
theorem punyUsual_any (p : Bt) (l : List Int) (A : Option Addr) (c : Nat) (s : ByteArray) (w : World) (hb : 0 ≤ p.btw ∧ p.btw ≤ 255) (R : ReadsInt w .i32 A l.length l) (hc : l.length ≤ c) (hi : i32s l) (hl : l.length ≤ 1048576) (hs : s.size ≤ 1048576) (T : Tabs w) :
    Calls Tryd.prog 10 #[.agg (bootA p), .slice A l.length c, .string s] w fun e w' => e = .returned (.bool true) ∧ Below w.heap.size w w' :=
  posternlaw14_PunyUsual.calls 1125899906842624 p.base p.least p.most p.skew p.damp p.bias p.first p.btw A c l s true w (C_of_ints R) hc (usual_f _ (by omega) awake2 p hb l (List.all_eq_true.2 fun x hx => decide_eq_true (hi x hx)) hl s hs) T
end Go.Proofs.YtmjlkifmbhaiiaaDoor.V
