/- Puny: PunyBack: what is encoded is ASCII, and is decoded again; great letters in digits are as small ones. -/
import Derived.Test.YtmjlkifmbhaiiaaDoorPut
import Derived.Test.YtmjlkifmbhaiiaaDoorQPtx3
import Derived.Test.YtmjlkifmbhaiiaaDoorQPtx7
import Derived.Test.YtmjlkifmbhaiiaaDoorQPtx8
import Derived.Test.YtmjlkifmbhaiiaaDoorQPtx0
set_option linter.unusedVariables false
set_option linter.unusedSimpArgs false
namespace Go.Proofs.YtmjlkifmbhaiiaaDoor.V
open Go.RowKit Go.Proofs.YtmjlkifmbhaiiaaDoorW.PrintWords Go.Proofs.YtmjlkifmbhaiiaaDoorW.PrintLast Go.Proofs.YtmjlkifmbhaiiaaDoorQ.Pt
theorem ints_of_C {k : IntKind} {w : World} {A : Option Addr} {n : Nat} {l : List Int} (h : Kd.C (Kd.int k) w A n l) : ReadsInt w k A n l := Kd.reads_of_C (enc := Value.int k) (d := (0 : Int)) (h1 := fun _ => rfl) h
theorem C_of_ints {k : IntKind} {w : World} {A : Option Addr} {n : Nat} {l : List Int} (h : ReadsInt w k A n l) : Kd.C (Kd.int k) w A n l := Kd.C_of_reads (enc := Value.int k) (d := (0 : Int)) (h1 := fun _ => rfl) h
theorem same_l0 (l : List Int) (hl : l.length ≤ 16777216) : ∀ (m : Nat) (i : Int) (k : Nat), 0 ≤ i → (l.length : Int) = i + m → m + 1 ≤ k → posternlaw14_same.l0 k l l l.length i = some true := by
  intro m
  induction m with
  | zero =>
    intro i k h0 h1 hk
    obtain ⟨k, rfl⟩ : ∃ m, k = m + 1 := ⟨k - 1, by omega⟩
    rw [posternlaw14_same.l0, if_neg (by omega)]
  | succ m ih =>
    intro i k h0 h1 hk
    obtain ⟨k, rfl⟩ : ∃ m, k = m + 1 := ⟨k - 1, by omega⟩
    rw [posternlaw14_same.l0, if_pos (by omega), if_pos h0, if_pos (by omega), if_pos (by omega), if_pos rfl, w64 (i + 1) (by omega) (by omega)]
    exact ih (i + 1) k (by omega) (by omega) (by omega)
theorem same_is (k : Nat) (l : List Int) (hl : l.length ≤ 16777216) (hk : 16777217 ≤ k) : posternlaw14_same.f k l l = some true := by
  unfold posternlaw14_same.f
  rw [if_pos rfl]
  exact same_l0 l hl l.length 0 k (by omega) (by omega) (by omega)
theorem PDec_is (s : ByteArray) (hs : s.size ≤ 268435456) : puny_Decode.f s = some (dec usual (bytesOf s)) := by
  unfold puny_Decode.f puny_Usual.f
  simp only [Option.bind_some]
  have e : puny_boot_decode.f 36 1 26 38 700 72 128 45 s = some (dec usual (bytesOf s)) := by
    unfold puny_boot_decode.f decF
    rw [if_pos ⟨ok_okB usual_ok, hs⟩]
    rfl
  rw [e]
  rfl
theorem encG_len (x : List Int) (hx : ∀ r ∈ x, 0 ≤ r ∧ r ≤ 1114111) (basic : Int) : ∀ (f : Nat) (out : List Int) (n delta bias h : Int) (res : List Int), h = cnt n x → 0 ≤ n → 0 ≤ delta → 0 ≤ bias → bias ≤ 1099511627776 → (∀ y ∈ out, 0 ≤ y ∧ y ≤ 127) → (out.length : Int) ≤ 1048577 + 11 * h → encG usual basic x f out n delta bias h = some res → (res.length : Int) ≤ 1048577 + 11 * x.length ∧ ∀ y ∈ res, 0 ≤ y ∧ y ≤ 127 := by
  intro f
  induction f with
  | zero => intro out n delta bias h res _ _ _ _ _ _ _ hs; rw [encG] at hs; cases hs
  | succ f ih =>
    intro out n delta bias h res hh hn0 h1 h3 h4 ho hol hs
    have hc := cnt_le n x
    by_cases hd : (x.length : Int) ≤ h
    · rw [encG, if_pos hd] at hs
      injection hs with hs
      subst hs
      exact ⟨by omega, ho⟩
    rw [encG, if_neg hd] at hs
    obtain ⟨-, t2, t3⟩ := nxtM_two n x (fun r hr => (hx r hr).2) (cnt_ex (by omega))
    obtain ⟨s1, s2, s3⟩ := nxtM_spec n x 1114112
    generalize nxtM n x 1114112 = m at *
    have hP : 0 ≤ (m - n) * (h + 1) := Int.mul_nonneg (by omega) (by omega)
    by_cases hov : 2147483647 < delta + (m - n) * (h + 1)
    · rw [if_pos hov] at hs; cases hs
    rw [if_neg hov] at hs
    rcases hsc : scan usual m basic x out (delta + (m - n) * (h + 1)) bias h with _ | ⟨o, d, b, h'⟩
    · rw [hsc] at hs; cases hs
    rw [hsc] at hs
    have hs2 : encG usual basic x f o (m + 1) (d + 1) b h' = some res := hs
    have hcm : cnt m x = h := by rw [cnt_same t3 s2]; exact hh.symm
    have hcs := cnt_succ m x
    obtain ⟨e1, e2, e3, e4, e5, e6, e7⟩ := scan_ok m basic x out (delta + (m - n) * (h + 1)) bias h o d b h' (by omega) (by omega) h3 h4 (by omega) ho hsc
    exact ih o (m + 1) (d + 1) b h' res (by omega) (by omega) (by omega) e3 e4 e7 (by omega) hs2
theorem enc_len (l : List Int) (hl : l.length ≤ 1048576) : (enc usual l).1.length ≤ 16777216 ∧ ∀ y ∈ (enc usual l).1, 0 ≤ y ∧ y ≤ 127 := by
  by_cases hb : 0 ≤ fstB (fun r => !scl r) l 0
  · have e : enc usual l = ([], fstB (fun r => !scl r) l 0, 20) := by
      unfold enc
      rw [chk_us, if_pos hb, if_pos (by simp)]
    rw [e]
    exact ⟨by simp, fun y hy => by simp at hy⟩
  have e : ∀ E, encG usual (bs l).length l (l.length + 1) (if bs l = [] then [] else bs l ++ [45]) 128 0 72 (bs l).length = E → enc usual l = (match E with
    | none => ([], 0, 142)
    | some out => if (dec usual out).2.2 = 0 then (out, 0, 0) else ([], 0, 142)) := by
    intro E hE
    unfold enc
    rw [chk_us, if_neg hb, if_neg (by simp), ← hE]
    rfl
  rcases hE : encG usual (bs l).length l (l.length + 1) (if bs l = [] then [] else bs l ++ [45]) 128 0 72 (bs l).length with _ | out
  · rw [e _ hE]
    exact ⟨by simp, fun y hy => by simp at hy⟩
  rw [e _ hE]
  simp only
  have ha := all_scl hb
  obtain ⟨b1, b2, b3, b4⟩ := bs_ok ha hl
  obtain ⟨g1, g2⟩ := encG_len l (fun r hr => scl_range (ha r hr)) _ _ _ 128 0 72 _ out b3 (by omega) (by omega) (by omega) (by omega) b1 b2 hE
  by_cases hd : (dec usual out).2.2 = 0
  · rw [if_pos hd]
    exact ⟨by show out.length ≤ _; omega, g2⟩
  · rw [if_neg hd]
    exact ⟨by simp, fun y hy => by simp at hy⟩
theorem aw_any (w : World) (T : Tabs w) : Calls Tryd.prog 11 #[] w fun e w' => e = .returned (.bool true) ∧ Below w.heap.size w w' :=
  posternlaw14_awake.calls 1125899906842624 true w awake2 T
theorem Dec_any (s : ByteArray) (l : List Int) (a c : Int) (w : World) (hs : s.size ≤ 16777216) (h : dec usual (bytesOf s) = (l, a, c)) (T : Tabs w) : Calls Tryd.prog 15 #[.string s] w fun e w' => ∃ (A : Option Addr) (k : Nat), e = .returned (.tuple #[.slice A l.length k, .int .i64 a, .int .i64 c]) ∧ ReadsInt w' .i32 A l.length l ∧ l.length ≤ k ∧ Below w.heap.size w w' := by
  refine (puny_Decode.calls s l a c w (by rw [PDec_is s (by omega), h]) T).mono ?_
  rintro e w' ⟨v, rfl, hr, hb⟩
  obtain ⟨A, k, rfl, h1, h2⟩ := Kd.R_reads hr
  exact ⟨A, k, rfl, ints_of_C h2, h1, hb⟩
theorem Enc_any (l : List Int) (A : Option Addr) (k : Nat) (w : World) (hl : l.length ≤ 1048576) (hi : i32B l = true) (hk : l.length ≤ k) (R : ReadsInt w .i32 A l.length l) (T : Tabs w) : Calls Tryd.prog 12 #[.slice A l.length k] w fun e w' => e = .returned (.tuple #[.string (encP l).1, .int .i64 (encP l).2.1, .int .i64 (encP l).2.2]) ∧ Below w.heap.size w w' :=
  puny_Encode.calls 1125899906842624 A k l _ _ _ w (C_of_ints R) hk (PEnc_is l hi hl _ (by omega)) T
theorem lastP_rng (b : Int) : ∀ (l : List Int) (i a : Int), a < i → a ≤ lastP b l i a ∧ lastP b l i a < i + l.length
  | [], i, a, h => by rw [lastP]; simp; omega
  | c :: l, i, a, h => by
    rw [lastP, List.length_cons]
    by_cases hc : c = b
    · rw [if_pos hc]
      have := lastP_rng b l (i + 1) i (by omega)
      omega
    · rw [if_neg hc]
      have := lastP_rng b l (i + 1) a (by omega)
      omega
theorem REnc_any (l : List Int) (A : Option Addr) (k : Nat) (w : World) (hl : l.length ≤ 1048576) (hk : l.length ≤ k) (R : ReadsInt w .i32 A l.length l) : Calls Tryd.prog 13 #[.slice A l.length k] w fun e w' => e = .returned (.tuple #[.string (encP l).1, .int .i64 (encP l).2.1, .int .i64 (encP l).2.2]) ∧ Below w.heap.size w w' :=
  posternref14_Encode.calls 1125899906842624 A k l _ _ _ w (C_of_ints R) hk (REnc_is l hl _ (by omega))
theorem Same_any (l : List Int) (A A2 : Option Addr) (k k2 : Nat) (w : World) (hl : l.length ≤ 1048576) (hk : l.length ≤ k) (hk2 : l.length ≤ k2) (R : ReadsInt w .i32 A l.length l) (R2 : ReadsInt w .i32 A2 l.length l) : Calls Tryd.prog 14 #[.slice A l.length k, .slice A2 l.length k2] w fun e w' => e = .returned (.bool true) ∧ Below w.heap.size w w' := by
  refine (posternlaw14_same.calls 1125899906842624 A k l A2 k2 l true w (C_of_ints R) hk (C_of_ints R2) hk2 (same_is _ l (by omega) (by omega))).mono ?_
  rintro e w' ⟨rfl, n, rfl⟩
  exact ⟨rfl, below_drewN (Below.refl _ _) n⟩
theorem Prop_any (s : ByteArray) (l : List Int) (w : World) (hs : s.size ≤ 16777216) (hl : l.length ≤ 1048576) (hi : i32B l = true) (hd : dec usual (bytesOf s) = (l, 0, 0)) (h1 : (encP l).1 = s) (h2 : (encP l).2.2 = 0) (T : Tabs w) : Calls Tryd.prog 17 #[.string s] w fun e w' => e = .returned (.bool true) ∧ Below w.heap.size w w' := by
  refine puny_Proper.calls 1125899906842624 s true w ?_ T
  unfold puny_Proper.f
  rw [PDec_is s (by omega), hd]
  simp only [Option.bind_some]
  rw [PEnc_is l hi hl _ (by omega)]
  simp only [Option.bind_some]
  rw [if_pos trivial, if_pos h2, h1]
  simp
theorem encP_err {l : List Int} (h : (encP l).2.2 ≠ 0) : (encP l).1 = ⟨#[]⟩ := by
  have h' : (enc usual l).2.2 ≠ 0 := h
  have e : (enc usual l).1 = [] := by
    unfold enc at h' ⊢
    by_cases hc : (chk usual l).2 ≠ 0
    · rw [if_pos hc]
    rw [if_neg hc] at h' ⊢
    generalize encG usual _ l _ _ _ _ _ _ = E at *
    cases E with
    | none => rfl
    | some out =>
      simp only at h' ⊢
      by_cases hd : (dec usual out).2.2 = 0
      · rw [if_pos hd] at h'; exact absurd rfl h'
      · rw [if_neg hd]
  show strOfNums (enc usual l).1 = _
  rw [e]
  rfl
/-- a small letter's great one -/
def grt (c : Int) : Int := if 97 ≤ c ∧ c ≤ 122 then c - 32 else c
theorem grt_dgu (c : Int) : dgu (grt c) = dgu c := by
  unfold grt dgu
  by_cases h : 97 ≤ c ∧ c ≤ 122
  · rw [if_pos h, if_neg (by omega), if_pos (by omega), if_pos h]
    omega
  · rw [if_neg h, if_neg h]
theorem grt_45 {c : Int} (h : c ≠ 45) : grt c ≠ 45 := by
  unfold grt
  split <;> omega
/-- the text with great letters from the last hyphen on -/
def grT (o : List Int) : List Int := if 0 < lastP 45 o 0 0 ∨ rd o 0 ≠ 45 then o.take (lastP 45 o 0 0).toNat ++ (o.drop (lastP 45 o 0 0).toNat).map grt else o
theorem grT_len (o : List Int) : (grT o).length = o.length := by
  unfold grT
  split
  · rw [List.length_append, List.length_map, ← List.length_append, List.take_append_drop]
  · rfl
theorem grT_dec (o : List Int) : dec usual (grT o) = dec usual o := by
  unfold grT
  by_cases hm : (45 : Int) ∈ o
  · obtain ⟨B, R, rfl, hR⟩ := lastP_split 45 o hm
    rw [lastP_at 45 B R 0 0 hR]
    by_cases hB : B = []
    · subst hB
      rw [if_neg (by simp [rd])]
    · have hp : 0 < B.length := List.length_pos_iff.2 hB
      rw [if_pos (Or.inl (by omega)), Int.zero_add, Int.toNat_natCast, List.take_left' rfl, List.drop_left' rfl, List.map_cons, show grt 45 = 45 from rfl]
      refine (dec_blind1 hR (fun x hx => ?_) ?_).symm
      · obtain ⟨y, hy, rfl⟩ := List.mem_map.1 hx
        exact grt_45 (hR y hy)
      · rw [List.map_map]
        exact List.map_congr_left fun x _ => (grt_dgu x).symm
  · have hR : ∀ x ∈ o, x ≠ 45 := fun x hx e => hm (e ▸ hx)
    rw [lastP_none 45 o 0 0 hR]
    by_cases h0 : rd o 0 = 45
    · rw [if_neg (by simp [h0])]
    · rw [if_pos (Or.inr h0), show ((0 : Int)).toNat = 0 from rfl, List.take_zero, List.drop_zero, List.nil_append]
      refine (dec_blind2 hR (fun x hx => ?_) ?_).symm
      · obtain ⟨y, hy, rfl⟩ := List.mem_map.1 hx
        exact grt_45 (hR y hy)
      · rw [List.map_map]
        exact List.map_congr_left fun x _ => (grt_dgu x).symm
theorem rd_grT (s : List Int) (i : Int) (h0 : 0 ≤ i) (h1 : i < s.length) : rd (grT s) i = if (0 < lastP 45 s 0 0 ∨ rd s 0 ≠ 45) ∧ lastP 45 s 0 0 ≤ i then grt (rd s i) else rd s i := by
  have hr : 0 ≤ lastP 45 s 0 0 ∧ lastP 45 s 0 0 ≤ s.length := by
    rcases lastP_spec 45 s 0 0 with ⟨h1, h2⟩ | ⟨j, h1, h2, h3, h4⟩ <;> omega
  unfold grT
  generalize lastP 45 s 0 0 = c at *
  by_cases hq : 0 < c ∨ rd s 0 ≠ 45
  · rw [if_pos hq]
    have hlt : (s.take c.toNat).length = c.toNat := by rw [List.length_take]; omega
    by_cases h : c ≤ i
    · rw [if_pos ⟨hq, h⟩]
      unfold rd
      rw [List.getD_eq_getElem?_getD, List.getD_eq_getElem?_getD, List.getElem?_append, hlt, if_neg (by omega), List.getElem?_map, List.getElem?_drop, show c.toNat + (i.toNat - c.toNat) = i.toNat by omega, List.getElem?_eq_getElem (by omega)]
      rfl
    · rw [if_neg (fun e => h e.2)]
      unfold rd
      rw [List.getD_eq_getElem?_getD, List.getD_eq_getElem?_getD, List.getElem?_append, hlt, if_pos (by omega), List.getElem?_take, if_pos (by omega)]
  · rw [if_neg hq, if_neg (fun e => hq e.1)]
theorem grT_rng {o : List Int} (h : ∀ x ∈ o, 0 ≤ x ∧ x ≤ 127) : ∀ x ∈ grT o, 0 ≤ x ∧ x ≤ 255 := by
  intro x hx
  unfold grT at hx
  split at hx
  · rcases List.mem_append.1 hx with hx | hx
    · have := h x (List.mem_of_mem_take hx); omega
    · obtain ⟨y, hy, rfl⟩ := List.mem_map.1 hx
      have := h y (List.mem_of_mem_drop hy)
      unfold grt
      split <;> omega
  · have := h x hx; omega
set_option maxRecDepth 100000 in
set_option maxHeartbeats 4000000 in
theorem punyBack_any (l : List Int) (A : Option Addr) (kc : Nat) (w : World) (R : ReadsInt w .i32 A l.length l) (hkc : l.length ≤ kc) (hl : l.length ≤ 1048576) (hx : ∀ x ∈ l, -2147483648 ≤ x ∧ x < 2147483648) (T : Tabs w) :
    Calls Tryd.prog 7 #[.slice A l.length kc] w fun e w' => e = .returned (.bool true) ∧ Below w.heap.size w w' := by
  have hi : i32B l = true := List.all_eq_true.2 fun x h => decide_eq_true (by have := hx x h; omega)
  have Haw := Lib.hid (aw_any w T)
  have HEn := Lib.hid (fun W (h : Below w.heap.size w W) => Enc_any l A kc W hl hi hkc (R.below h) (Utf8Tabs_below T h))
  have HRE := Lib.hid (fun W (h : Below w.heap.size w W) => REnc_any l A kc W hl hkc (R.below h))
  have herr := encP_err (l := l)
  have hback := back l
  obtain ⟨z1, z2⟩ := enc_len l hl
  have hsz : (encP l).1.size = (enc usual l).1.length := strOfNums_size _
  have hby : bytesOf (encP l).1 = (enc usual l).1 := bytesOf_strOfNums _ (r255 z2)
  have hprop := fun W h1 h2 h3 T => Prop_any (encP l).1 l W h1 hl hi h2 rfl h3 T
  have h3e : (encP l).2.2 = (enc usual l).2.2 := rfl
  obtain ⟨s, a, c, he⟩ : ∃ s a c, encP l = (s, a, c) := ⟨_, _, _, rfl⟩
  rw [he] at HEn HRE herr hsz hby hprop h3e
  simp only at HEn HRE herr hsz hby hprop h3e
  clear he
  by_cases hc : c = 0
  · subst hc
    have hd := hback h3e.symm
    generalize (enc usual l).1 = o at *
    subst hby
    have HD := Lib.hid (fun W (h : Below w.heap.size w W) => Dec_any s l 0 0 W (by omega) hd (Utf8Tabs_below T h))
    have HPr := Lib.hid (fun W (h : Below w.heap.size w W) => hprop W (by omega) hd rfl (Utf8Tabs_below T h))
    have hl0 := bytesOf_length s
    have hs : s.size ≤ 16777216 := by omega
    have hgd : dec usual (bytesOf (strOfNums (grT (bytesOf s)))) = (l, 0, 0) := by
      rw [bytesOf_strOfNums _ (grT_rng z2), grT_dec, hd]
    have hgs : (strOfNums (grT (bytesOf s))).size = s.size := by rw [strOfNums_size, grT_len, hl0]
    have HD2 := Lib.hid (fun W (h : Below w.heap.size w W) => Dec_any (strOfNums (grT (bytesOf s))) l 0 0 W (by omega) hgd (Utf8Tabs_below T h))
    have HSm := Lib.hid (fun A2 k2 W hk2 (h : Below w.heap.size w W) R2 => Same_any l A2 A k2 kc W hl hk2 hkc R2 (R.below h))
    have Hasc := Lib.hid (fun (k : Int) (h0 : 0 ≤ k) (h1 : k < s.size) => show bt s k ≤ 127 by
      have h1 : k.toNat < (bytesOf s).length := by omega
      have h2 := z2 _ (List.getElem_mem h1)
      have := rd_bytesOf s k
      unfold rd at this
      rw [List.getD_eq_getElem?_getD, List.getElem?_eq_getElem h1] at this
      rw [← this]
      exact h2.2)
    have kb := fun W => print_bytes (P := Tryd.prog) 9 35 5 Tryd.underlying9 Tryd.underlying35 Tryd.underlying5 s W
    obtain ⟨cc, hcc⟩ : ∃ cc, lastP 45 (bytesOf s) 0 0 = cc := ⟨_, rfl⟩
    have hrg : 0 ≤ cc ∧ cc ≤ s.size := by
      rcases lastP_spec 45 (bytesOf s) 0 0 with ⟨h1, h2⟩ | ⟨j, h1, h2, h3, h4⟩ <;> omega
    have hlow := rd_grT (bytesOf s)
    rw [hcc, rd_bytesOf] at hlow
    have Hlow := Lib.hid hlow
    have hll := grT_len (bytesOf s)
    have HC0 := Lib.hid hcc
    clear hsz z1 hgs hcc hlow hback hgd hprop herr h3e hd z2 hi hx
    go_enter Tryd.func7, Tryd.ntmps7
    go_wp2_with (first
      | (go_at_call 11; (with_reducible refine (Haw.out).mono ?_); rintro e w1 ⟨rfl, hb1⟩)
      | (go_at_call 12; (with_reducible refine (HEn.out _ hb1).mono ?_); rintro e w2 ⟨rfl, hb2⟩; have hbb2 := below_after hb1 hb2))
    go_loopw [9, 41] (fun a i wr => ∃ (a' k : Int), a = .int .i64 a' ∧ i = .int .i64 k ∧ 0 ≤ k ∧ k ≤ s.size ∧ 0 ≤ a' ∧ a' ≤ s.size ∧ Hid (lastP 45 ((bytesOf s).drop k.toNat) k a' = cc) ∧ wr = w2) (fun _ i _ => s.size - (intOf i).toNat)
    case atStart => exact ⟨0, 0, rfl, rfl, by omega, by omega, by omega, by omega, HC0, rfl⟩
    case round =>
      obtain ⟨a', k, rfl, rfl, hk0, hk1, ha0, ha1, hP, rfl⟩ := hrel
      by_cases hlt : k < s.size
      · have hbt := bt_at s k
        have hbr := bt_range s k
        have hasc := Hasc.out k hk0 hlt
        have hdr : (bytesOf s).drop k.toNat = bt s k :: (bytesOf s).drop (k + 1).toNat := by
          have h1 : k.toNat < (bytesOf s).length := by omega
          rw [List.drop_eq_getElem_cons h1, show (k + 1).toNat = k.toNat + 1 by omega]
          congr 1
          have := rd_bytesOf s k
          unfold rd at this
          rw [List.getD_eq_getElem?_getD, List.getElem?_eq_getElem h1] at this
          exact this
        have hp := hP.out
        rw [hdr, lastP] at hp
        clear hdr
        by_cases hq : bt s k = 45
        · rw [if_pos hq] at hp
          have HP := Lib.hid hp
          clear hp hP
          have hqb : (bt s k == 45) = true := beq_iff_eq.mpr hq
          go_wp2
          exact ⟨⟨k, k + 1, rfl, rfl, by omega, by omega, by omega, by omega, HP, trivial⟩, by simp [intOf]; omega⟩
        · rw [if_neg hq] at hp
          have HP := Lib.hid hp
          clear hp hP
          have hqb : (bt s k == 45) = false := beq_eq_false_iff_ne.mpr hq
          go_wp2
          exact ⟨⟨a', k + 1, rfl, rfl, by omega, by omega, by omega, by omega, HP, trivial⟩, by simp [intOf]; omega⟩
      · obtain rfl : k = s.size := by omega
        have hp := hP.out
        rw [List.drop_of_length_le (by omega), lastP] at hp
        subst hp
        go_wp2
        have hb0 : Byt (Lib.bytesWorld wr 5 s) wr.heap.size (bytesOf s) := Byt.new wr 5 s
        have hbel0 : Below wr.heap.size wr (Lib.bytesWorld wr 5 s) := bytes_below (Below.refl _ _) (Nat.le_refl _) _ _
        clear kb
        generalize Lib.bytesWorld wr 5 s = w3 at *
        generalize wr = W0 at *
        go_loopw [12] (fun v wr => ∃ (k : Int) (xs : List Int), v = .int .i64 k ∧ a' ≤ k ∧ k ≤ s.size ∧ xs.length = s.size ∧ Hid (∀ i, 0 ≤ i → i < k → rd xs i = rd (grT (bytesOf s)) i) ∧ Hid (∀ i, k ≤ i → i < s.size → rd xs i = rd (bytesOf s) i) ∧ Below W0.heap.size W0 wr ∧ Byt wr W0.heap.size xs) (fun v _ => s.size - (intOf v).toNat)
        case atStart =>
          refine ⟨a', bytesOf s, rfl, by omega, by omega, hl0, fun i h0 h1 => ?_, fun i h0 h1 => rfl, hbel0, hb0⟩
          rw [Hlow.out i h0 (by omega), if_neg (fun e => by omega)]
        case round =>
          obtain ⟨k, xs, rfl, hk0, hk1, hxl, hd, hr, hbel, hb⟩ := hrel
          by_cases hlt : k < s.size
          · have c0 := hb.cell k (by omega) (by omega)
            have c1 := hb.frozen k (by omega) (by omega)
            rw [hr.out k (by omega) hlt, rd_bytesOf] at c0
            have hbr := bt_range s k
            have hbt0 : ∀ h : 0 < s.size, ((s[0]).toNat : Int) = bt s 0 := fun h => bt_at s 0 h
            have hbr0 := bt_range s 0
            have hlk := Hlow.out k (by omega) (by omega)
            rw [rd_bytesOf] at hlk
            unfold grt at hlk
            have HLk := Lib.hid hlk
            clear hlk
            by_cases hq : 97 ≤ bt s k ∧ bt s k ≤ 122
            · obtain ⟨q0, q1⟩ := hq
              by_cases hg : 0 < a' ∨ bt s 0 ≠ 45
              · have hle : a' ≤ k := hk0
                have hfin : rd (grT (bytesOf s)) k = bt s k - 32 := by rw [HLk.out, if_pos ⟨hg, hle⟩, if_pos ⟨q0, q1⟩]
                have hgo : ∀ i, 0 ≤ i → i < k + 1 → rd (xs.set k.toNat (bt s k - 32)) i = rd (grT (bytesOf s)) i := by
                  intro i h0 h1
                  rw [rd_set xs k i _ (by omega) (by omega) h0]
                  by_cases h : i = k
                  · rw [if_pos h, h, hfin]
                  · rw [if_neg h]; exact hd.out i h0 (by omega)
                have hgo2 : ∀ i, k + 1 ≤ i → i < s.size → rd (xs.set k.toNat (bt s k - 32)) i = rd (bytesOf s) i := by
                  intro i h0 h1
                  rw [rd_set xs k i _ (by omega) (by omega) (by omega), if_neg (by omega)]
                  exact hr.out i (by omega) h1
                have HG := Lib.hid hgo
                have HG2 := Lib.hid hgo2
                clear hgo hgo2 hfin
                by_cases hg1 : 0 < a'
                · clear hg
                  go_wp2
                  exact ⟨⟨k + 1, xs.set k.toNat _, rfl, by omega, by omega, by rw [List.length_set, hxl], HG, HG2, below_set hbel (Nat.le_refl _) _, hb.set_ k (by omega) (by omega) _⟩, by simp [intOf]; omega⟩
                · obtain rfl : a' = 0 := by omega
                  have hg2 : bt s 0 ≠ 45 := by omega
                  have hgb : (bt s 0 != 45) = true := bne_iff_ne.mpr hg2
                  clear hg
                  go_wp2
                  exact ⟨⟨k + 1, xs.set k.toNat _, rfl, by omega, by omega, by rw [List.length_set, hxl], HG, HG2, below_set hbel (Nat.le_refl _) _, hb.set_ k (by omega) (by omega) _⟩, by simp [intOf]; omega⟩
              · have hle : a' ≤ k := hk0
                have hfin : rd (grT (bytesOf s)) k = bt s k := by rw [HLk.out, if_neg (fun e => hg e.1)]
                have hgo : ∀ i, 0 ≤ i → i < k + 1 → rd xs i = rd (grT (bytesOf s)) i := by
                  intro i h0 h1
                  by_cases h : i = k
                  · rw [h, hr.out k (by omega) hlt, hfin, rd_bytesOf]
                  · exact hd.out i h0 (by omega)
                have HG := Lib.hid hgo
                clear hgo hfin
                obtain rfl : a' = 0 := by omega
                have hg2 : bt s 0 = 45 := by omega
                have hgb : (bt s 0 != 45) = false := bne_eq_false_iff_eq.mpr hg2
                clear hg
                go_wp2
                exact ⟨⟨k + 1, xs, rfl, by omega, by omega, hxl, HG, fun i h0 h1 => hr.out i (by omega) h1, hbel, hb⟩, by simp [intOf]; omega⟩
            · have hfin : rd (grT (bytesOf s)) k = bt s k := by
                rw [HLk.out, if_neg hq]
                split <;> rfl
              have hgo : ∀ i, 0 ≤ i → i < k + 1 → rd xs i = rd (grT (bytesOf s)) i := by
                intro i h0 h1
                by_cases h : i = k
                · rw [h, hr.out k (by omega) hlt, hfin, rd_bytesOf]
                · exact hd.out i h0 (by omega)
              have HG := Lib.hid hgo
              clear hgo hfin
              go_wp2
              all_goals exact ⟨⟨k + 1, xs, rfl, by omega, by omega, hxl, HG, fun i h0 h1 => hr.out i (by omega) h1, hbel, hb⟩, by simp [intOf]; omega⟩
          · obtain rfl : k = s.size := by omega
            have hx : xs = grT (bytesOf s) := ext_rd (by omega) fun i h0 h1 => hd.out i h0 (by omega)
            subst hx
            have hbb4 := below_after hbb2 hbel
            generalize grT (bytesOf s) = t at *
            have HB := Lib.hid hb
            go_wp2_with (first
              | (go_at_call 15; (with_reducible refine (HD.out _ hbb4).mono ?_); rintro e w5 ⟨A5, k5, rfl, hR5, hk5, hb5⟩; have hbb5 := below_after hbb4 hb5)
              | (go_at_call 14; (with_reducible refine (HSm.out _ _ _ hk5 hbb5 hR5).mono ?_); rintro e w6 ⟨rfl, hb6⟩; have hbb6 := below_after hbb5 hb6)
              | (go_at_call 17; (with_reducible refine (HPr.out _ hbb6).mono ?_); rintro e w7 ⟨rfl, hb7⟩; have hbb7 := below_after hbb6 hb7; have ht7 := fun cap => (((HB.out.after hb5).after hb6).after hb7).text (P := Tryd.prog) Tryd.underlying35 Tryd.underlying5 Tryd.underlying9 cap; rw [hxl] at ht7)
              | (go_at_call 15; (with_reducible refine (HD2.out _ hbb7).mono ?_); rintro e w8 ⟨A8, k8, rfl, hR8, hk8, hb8⟩; have hbb8 := below_after hbb7 hb8)
              | (go_at_call 14; (with_reducible refine (HSm.out _ _ _ hk8 hbb8 hR8).mono ?_); rintro e w9 ⟨rfl, hb9⟩; have hbb9 := below_after hbb8 hb9))
            go_ret
            exact ⟨by simp, hbb9⟩
  · have hnil := herr hc
    subst hnil
    have hcb : (c != 0) = true := bne_iff_ne.mpr hc
    clear herr hsz hby hprop h3e hback z1 z2 hi hx
    go_enter Tryd.func7, Tryd.ntmps7
    go_wp2_with (first
      | (go_at_call 11; (with_reducible refine (Haw.out).mono ?_); rintro e w1 ⟨rfl, hb1⟩)
      | (go_at_call 12; (with_reducible refine (HEn.out _ hb1).mono ?_); rintro e w2 ⟨rfl, hb2⟩; have hbb2 := below_after hb1 hb2)
      | (go_at_call 13; (with_reducible refine (HRE.out _ hbb2).mono ?_); rintro e w3 ⟨rfl, hb3⟩; have hbb3 := below_after hbb2 hb3))
    go_ret
    exact ⟨by simp, hbb3⟩
end Go.Proofs.YtmjlkifmbhaiiaaDoor.V
