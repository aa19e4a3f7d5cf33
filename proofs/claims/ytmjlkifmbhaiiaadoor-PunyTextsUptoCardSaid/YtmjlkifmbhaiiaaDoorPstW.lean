/- Puny: PunyTexts: what is decoded is encoded to the same text, in small letters. -/
import Derived.Test.YtmjlkifmbhaiiaaDoorPst
import Derived.Test.YtmjlkifmbhaiiaaDoorQPsx3
import Derived.Test.YtmjlkifmbhaiiaaDoorQPsx5
import Derived.Test.YtmjlkifmbhaiiaaDoorQPsx0
set_option linter.unusedVariables false
set_option linter.unusedSimpArgs false
namespace Go.Proofs.YtmjlkifmbhaiiaaDoor.V
open Go.RowKit Go.Proofs.YtmjlkifmbhaiiaaDoorW.PrintWords Go.Proofs.YtmjlkifmbhaiiaaDoorW.PrintLast Go.Proofs.YtmjlkifmbhaiiaaDoorQ.Ps
theorem ints_of_C {k : IntKind} {w : World} {A : Option Addr} {n : Nat} {l : List Int} (h : Kd.C (Kd.int k) w A n l) : ReadsInt w k A n l := Kd.reads_of_C (enc := Value.int k) (d := (0 : Int)) (h1 := fun _ => rfl) h
theorem C_of_ints {k : IntKind} {w : World} {A : Option Addr} {n : Nat} {l : List Int} (h : ReadsInt w k A n l) : Kd.C (Kd.int k) w A n l := Kd.C_of_reads (enc := Value.int k) (d := (0 : Int)) (h1 := fun _ => rfl) h
theorem PDec_is (s : ByteArray) (hs : s.size ≤ 268435456) : puny_Decode.f s = some (dec usual (bytesOf s)) := by
  unfold puny_Decode.f puny_Usual.f
  simp only [Option.bind_some]
  have e : puny_boot_decode.f 36 1 26 38 700 72 128 45 s = some (dec usual (bytesOf s)) := by
    unfold puny_boot_decode.f decF
    rw [if_pos ⟨ok_okB usual_ok, hs⟩]
    rfl
  rw [e]
  rfl
/-- what decG answers is of code points, no longer than what it read -/
theorem decG_rng : ∀ (f : Nat) (L : List Int) (a : Int) (out : List Int) (n i b : Int), 0 ≤ n → 0 ≤ i → i ≤ out.length → i ≤ 2147483647 → (out.length : Int) + L.length ≤ 2147483646 → (∀ x ∈ out, 0 ≤ x ∧ x ≤ 1114111) → (∀ x ∈ (decG usual f L a out n i b).1, 0 ≤ x ∧ x ≤ 1114111) ∧ (decG usual f L a out n i b).1.length ≤ out.length + L.length := by
  intro f
  induction f with
  | zero => intro L a out n i b _ _ _ _ _ _; rw [decG]; exact ⟨fun x hx => by simp at hx, by simp⟩
  | succ f ih =>
    intro L a out n i b hn hi0 hi1 hi2 hs ho
    rw [decG]
    by_cases hL : L = []
    · rw [if_pos hL]; exact ⟨ho, by simp⟩
    rw [if_neg hL]
    have hok := num_ok usual_ok b L a i 1 usual.base hi0 hi2 (by omega)
    show (∀ x ∈ (if (num usual b L a i 1 usual.base).1 ≠ 0 then _ else _ : List Int × Int × Int).1, _) ∧ (if (num usual b L a i 1 usual.base).1 ≠ 0 then _ else _ : List Int × Int × Int).1.length ≤ _
    show (∀ x ∈ (let r := num usual b L a i 1 usual.base; _ : List Int × Int × Int).1, _) ∧ (let r := num usual b L a i 1 usual.base; _ : List Int × Int × Int).1.length ≤ _
    generalize num usual b L a i 1 usual.base = r at *
    by_cases hr : r.1 ≠ 0
    · rw [if_pos hr]; exact ⟨fun x hx => by simp at hx, by simp⟩
    rw [if_neg hr]
    obtain ⟨m, m1, m2, m3, m4, m5, m6⟩ := hok (Decidable.not_not.1 hr)
    by_cases hbig : 1114111 < n + r.2.2.1 / ((out.length : Int) + 1)
    · rw [if_pos hbig]; exact ⟨fun x hx => by simp at hx, by simp⟩
    rw [if_neg hbig]
    by_cases hsc : scl (n + r.2.2.1 / ((out.length : Int) + 1)) = false
    · rw [if_pos hsc]; exact ⟨fun x hx => by simp at hx, by simp⟩
    rw [if_neg hsc]
    have hq0 : 0 ≤ r.2.2.1 / ((out.length : Int) + 1) := Int.ediv_nonneg (by omega) (by omega)
    have hm0 : 0 ≤ r.2.2.1 % ((out.length : Int) + 1) := Int.emod_nonneg _ (by omega)
    have hm1 : r.2.2.1 % ((out.length : Int) + 1) < (out.length : Int) + 1 := Int.emod_lt_of_pos _ (by omega)
    have hN : 0 ≤ n + r.2.2.1 / ((out.length : Int) + 1) := by omega
    generalize adp usual (r.2.2.1 - i) ((out.length : Int) + 1) (i == 0) = B
    generalize r.2.2.1 % ((out.length : Int) + 1) = I at *
    generalize n + r.2.2.1 / ((out.length : Int) + 1) = N at *
    have hlen3 : (out.take I.toNat ++ N :: out.drop I.toNat).length = out.length + 1 := by simp only [List.length_append, List.length_take, List.length_cons, List.length_drop]; omega
    have hlen4 : r.2.2.2.length = L.length - m := by rw [m4, List.length_drop]
    obtain ⟨i1, i2⟩ := ih r.2.2.2 r.2.1 (out.take I.toNat ++ N :: out.drop I.toNat) N (I + 1) B hN (by omega) (by omega) (by omega) (by omega) (fun x hx => by
      rcases List.mem_append.1 hx with hx | hx
      · exact ho x (List.mem_of_mem_take hx)
      · rcases List.mem_cons.1 hx with rfl | hx
        · omega
        · exact ho x (List.mem_of_mem_drop hx))
    exact ⟨i1, by omega⟩
theorem dec_rng (s : ByteArray) (hs : s.size ≤ 16777216) : (∀ x ∈ (dec usual (bytesOf s)).1, 0 ≤ x ∧ x ≤ 1114111) ∧ (dec usual (bytesOf s)).1.length ≤ s.size := by
  have hl : (bytesOf s).length = s.size := bytesOf_length s
  have hb : ∀ x ∈ bytesOf s, 0 ≤ x ∧ x ≤ 255 := fun x h => mem_bytesOf h
  unfold dec
  by_cases h : 0 < lastP usual.btw (bytesOf s) 0 0
  · rw [if_pos h]
    by_cases h2 : 0 ≤ fstB (fun b => !bas usual b) ((bytesOf s).take (lastP usual.btw (bytesOf s) 0 0).toNat) 0
    · rw [if_pos h2]; exact ⟨fun x hx => by simp at hx, by simp⟩
    rw [if_neg h2]
    have hL : lastP usual.btw (bytesOf s) 0 0 < s.size := by
      rcases lastP_spec usual.btw (bytesOf s) 0 0 with ⟨h3, -⟩ | ⟨j, h1, -, -, h4⟩ <;> omega
    generalize lastP usual.btw (bytesOf s) 0 0 = d at *
    have e1 : ((bytesOf s).take d.toNat).length = d.toNat := by rw [List.length_take]; omega
    have e2 : ((bytesOf s).drop (d + 1).toNat).length = s.size - (d + 1).toNat := by rw [List.length_drop]; omega
    obtain ⟨i1, i2⟩ := decG_rng ((bytesOf s).length + 1) ((bytesOf s).drop (d + 1).toNat) (d + 1) ((bytesOf s).take d.toNat) usual.first 0 usual.bias (by simp [usual]) (by omega) (by omega) (by omega) (by omega) (fun x hx => by have := hb x (List.mem_of_mem_take hx); omega)
    exact ⟨i1, by omega⟩
  · rw [if_neg h]
    obtain ⟨i1, i2⟩ := decG_rng ((bytesOf s).length + 1) (bytesOf s) 0 [] usual.first 0 usual.bias (by simp [usual]) (by omega) (by simp) (by omega) (by simp only [List.length_nil]; omega) (fun x hx => by simp at hx)
    exact ⟨i1, by simp only [List.length_nil] at i2; omega⟩
theorem aw_any (w : World) (T : Tabs w) : Calls Tryd.prog 11 #[] w fun e w' => e = .returned (.bool true) ∧ Below w.heap.size w w' :=
  posternlaw14_awake.calls 1125899906842624 true w awake2 T
theorem Dec_any (s : ByteArray) (l : List Int) (a c : Int) (w : World) (hs : s.size ≤ 16777216) (h : dec usual (bytesOf s) = (l, a, c)) (T : Tabs w) : Calls Tryd.prog 15 #[.string s] w fun e w' => ∃ (A : Option Addr) (k : Nat), e = .returned (.tuple #[.slice A l.length k, .int .i64 a, .int .i64 c]) ∧ ReadsInt w' .i32 A l.length l ∧ l.length ≤ k ∧ Below w.heap.size w w' := by
  refine (puny_Decode.calls s l a c w (by rw [PDec_is s (by omega), h]) T).mono ?_
  rintro e w' ⟨v, rfl, hr, hb⟩
  obtain ⟨A, k, rfl, h1, h2⟩ := Kd.R_reads hr
  exact ⟨A, k, rfl, ints_of_C h2, h1, hb⟩
theorem RDec_any (s : ByteArray) (l : List Int) (a c : Int) (w : World) (hs : s.size ≤ 16777216) (h : dec usual (bytesOf s) = (l, a, c)) : Calls Tryd.prog 16 #[.string s] w fun e w' => ∃ (A : Option Addr) (k : Nat), e = .returned (.tuple #[.slice A l.length k, .int .i64 a, .int .i64 c]) ∧ ReadsInt w' .i32 A l.length l ∧ l.length ≤ k ∧ Below w.heap.size w w' := by
  refine (posternref14_Decode.calls 1125899906842624 s l a c w (by rw [RDecode_is s (by omega) _ (by omega), h])).mono ?_
  rintro e w' ⟨v, rfl, hr, hb⟩
  obtain ⟨A, k, rfl, h1, h2⟩ := Kd.R_reads hr
  exact ⟨A, k, rfl, ints_of_C h2, h1, hb⟩
theorem Enc_any (l : List Int) (A : Option Addr) (k : Nat) (w : World) (hl : l.length ≤ 1048576) (hi : i32B l = true) (hk : l.length ≤ k) (R : ReadsInt w .i32 A l.length l) (T : Tabs w) : Calls Tryd.prog 12 #[.slice A l.length k] w fun e w' => e = .returned (.tuple #[.string (encP l).1, .int .i64 (encP l).2.1, .int .i64 (encP l).2.2]) ∧ Below w.heap.size w w' :=
  puny_Encode.calls 1125899906842624 A k l _ _ _ w (C_of_ints R) hk (PEnc_is l hi hl _ (by omega)) T
theorem decG_err : ∀ (f : Nat) (L : List Int) (a : Int) (D : List Int) (n i b : Int), (decG usual f L a D n i b).2.2 ≠ 0 → (decG usual f L a D n i b).1 = [] := by
  intro f
  induction f with
  | zero => intro L a D n i b _; rw [decG]
  | succ f ih =>
    intro L a D n i b
    rw [decG]
    by_cases c1 : L = []
    · rw [if_pos c1]; intro h; exact absurd rfl h
    rw [if_neg c1]
    simp only
    split
    · intro _; rfl
    split
    · intro _; rfl
    split
    · intro _; rfl
    exact ih _ _ _ _ _ _
theorem dec_err {s : List Int} (h : (dec usual s).2.2 ≠ 0) : (dec usual s).1 = [] := by
  unfold dec at h ⊢
  split
  · rename_i c1
    rw [if_pos c1] at h
    split
    · rfl
    · rename_i c2
      rw [if_neg c2] at h
      exact decG_err _ _ _ _ _ _ _ h
  · rename_i c1
    rw [if_neg c1] at h
    exact decG_err _ _ _ _ _ _ _ h
theorem decG_at0 : ∀ (f : Nat) (L : List Int) (a : Int) (D : List Int) (n i b : Int), (decG usual f L a D n i b).2.2 = 0 → (decG usual f L a D n i b).2.1 = 0 := by
  intro f
  induction f with
  | zero => intro L a D n i b _; rw [decG]
  | succ f ih =>
    intro L a D n i b
    rw [decG]
    by_cases c1 : L = []
    · rw [if_pos c1]; intro _; rfl
    rw [if_neg c1]
    simp only
    split
    · rename_i c2; intro h; exact absurd h c2
    split
    · intro h; exact absurd h (by simp)
    split
    · intro h; exact absurd h (by simp)
    exact ih _ _ _ _ _ _
theorem dec_at0 {s : List Int} (h : (dec usual s).2.2 = 0) : (dec usual s).2.1 = 0 := by
  unfold dec at h ⊢
  split
  · rename_i c1
    rw [if_pos c1] at h
    split
    · rename_i c2
      rw [if_pos c2] at h
      exact absurd h (by simp)
    · rename_i c2
      rw [if_neg c2] at h
      exact decG_at0 _ _ _ _ _ _ _ h
  · rename_i c1
    rw [if_neg c1] at h
    exact decG_at0 _ _ _ _ _ _ _ h
theorem lastP_rng (b : Int) : ∀ (l : List Int) (i a : Int), a < i → a ≤ lastP b l i a ∧ lastP b l i a < i + l.length
  | [], i, a, h => by rw [lastP]; simp; omega
  | c :: l, i, a, h => by
    rw [lastP, List.length_cons]
    by_cases hc : c = b
    · rw [if_pos hc]
      have := lastP_rng b l (i + 1) i (by omega)
      omega
    · rw [if_neg hc]
      have := lastP_rng b l (i + 1) a (by omega)
      omega
theorem rd_lowT (s : List Int) (i : Int) (h0 : 0 ≤ i) (h1 : i < s.length) : rd (lowT s) i = if i < lastP 45 s 0 (-1) + 1 then rd s i else sml (rd s i) := by
  have hr := lastP_rng 45 s 0 (-1) (by omega)
  unfold lowT
  generalize lastP 45 s 0 (-1) = c at *
  have hlt : (s.take (c + 1).toNat).length = (c + 1).toNat := by rw [List.length_take]; omega
  unfold rd
  rw [List.getD_eq_getElem?_getD, List.getD_eq_getElem?_getD, List.getElem?_append]
  by_cases h : i < c + 1
  · rw [if_pos h, hlt, if_pos (by omega), List.getElem?_take, if_pos (by omega)]
  · rw [if_neg h, hlt, if_neg (by omega), List.getElem?_map, List.getElem?_drop, show (c + 1).toNat + (i.toNat - (c + 1).toNat) = i.toNat by omega, List.getElem?_eq_getElem (by omega)]
    rfl
theorem lowT_len (s : List Int) : (lowT s).length = s.length := by
  unfold lowT
  rw [List.length_append, List.length_map, ← List.length_append, List.take_append_drop]
theorem encP_of {l o : List Int} (h : enc usual l = (o, 0, 0)) : encP l = (strOfNums o, 0, 0) := by unfold encP; rw [h]
set_option maxRecDepth 100000 in
set_option maxHeartbeats 4000000 in
theorem punyTexts_any (s : ByteArray) (w : World) (hs : s.size ≤ 1048576) (T : Tabs w) : Calls Tryd.prog 4 #[.string s] w fun e w' => e = .returned (.bool true) ∧ Below w.heap.size w w' := by
  have hl0 := bytesOf_length s
  have hrng := dec_rng s (by omega)
  have herr := dec_err (s := bytesOf s)
  have hat0 := dec_at0 (s := bytesOf s)
  have htx := fun l hl h => tex (s := bytesOf s) (l := l) hl (fun x h => mem_bytesOf h) h
  obtain ⟨l, a, c, hd⟩ : ∃ l a c, dec usual (bytesOf s) = (l, a, c) := ⟨_, _, _, rfl⟩
  have HD := Lib.hid (fun W (h : Below w.heap.size w W) => Dec_any s l a c W (by omega) hd (Utf8Tabs_below T h))
  have HR := Lib.hid (fun W => RDec_any s l a c W (by omega) hd)
  have Haw := Lib.hid (aw_any w T)
  rw [hd] at hrng herr hat0
  simp only at hrng herr hat0
  obtain ⟨hr1, hr2⟩ := hrng
  by_cases hc : c = 0
  · subst hc
    obtain rfl : a = 0 := hat0 rfl
    obtain ⟨he1, he2⟩ := htx l (by omega) hd
    have hi : i32B l = true := List.all_eq_true.2 fun x hx => decide_eq_true (by have := hr1 x hx; omega)
    have hE := encP_of he1
    have henc := fun A k W hk R h => Enc_any l A k W (by omega) hi hk R (Utf8Tabs_below T h)
    rw [hE] at henc
    simp only at henc
    have HE := Lib.hid henc
    have Hscl := Lib.hid he2
    clear henc hE he1 he2 htx herr hat0 hr1 hi hd
    have kb := fun W => print_bytes (P := Tryd.prog) 9 35 5 Tryd.underlying9 Tryd.underlying35 Tryd.underlying5 s W
    obtain ⟨cc, hcc⟩ : ∃ cc, lastP 45 (bytesOf s) 0 (-1) = cc := ⟨_, rfl⟩
    have hrg := lastP_rng 45 (bytesOf s) 0 (-1) (by omega)
    rw [hcc] at hrg
    have hlow := rd_lowT (bytesOf s)
    rw [hcc] at hlow
    have Hlow := Lib.hid hlow
    have hll := lowT_len (bytesOf s)
    have HC0 := Lib.hid hcc
    clear hcc hlow
    go_enter Tryd.func4, Tryd.ntmps4
    go_wp2_with (first
      | (go_at_call 11; (with_reducible refine (Haw.out).mono ?_); rintro e w1 ⟨rfl, hb1⟩)
      | (go_at_call 15; (with_reducible refine (HD.out _ hb1).mono ?_); rintro e w2 ⟨A2, k2, rfl, hR2, hk2, hb2⟩; have hbb2 := below_after hb1 hb2))
    have HR2 := Lib.hid hR2
    clear hR2
    go_loopw [9, 44] (fun a i wr => ∃ (a' k : Int), a = .int .i64 a' ∧ i = .int .i64 k ∧ 0 ≤ k ∧ k ≤ s.size ∧ -1 ≤ a' ∧ a' ≤ s.size ∧ Hid (lastP 45 ((bytesOf s).drop k.toNat) k a' = cc) ∧ wr = w2) (fun _ i _ => s.size - (intOf i).toNat)
    case atStart => exact ⟨-1, 0, rfl, rfl, by omega, by omega, by omega, by omega, HC0, rfl⟩
    case round =>
      obtain ⟨a', k, rfl, rfl, hk0, hk1, ha0, ha1, hP, rfl⟩ := hrel
      by_cases hlt : k < s.size
      · have hbt := bt_at s k
        have hbr := bt_range s k
        have hdr : (bytesOf s).drop k.toNat = bt s k :: (bytesOf s).drop (k + 1).toNat := by
          have h1 : k.toNat < (bytesOf s).length := by omega
          rw [List.drop_eq_getElem_cons h1, show (k + 1).toNat = k.toNat + 1 by omega]
          congr 1
          have := rd_bytesOf s k
          unfold rd at this
          rw [List.getD_eq_getElem?_getD, List.getElem?_eq_getElem h1] at this
          exact this
        have hp := hP.out
        rw [hdr, lastP] at hp
        clear hdr
        by_cases hq : bt s k = 45
        · rw [if_pos hq] at hp
          have HP := Lib.hid hp
          clear hp hP
          have hqb : (bt s k == 45) = true := beq_iff_eq.mpr hq
          go_wp2
          exact ⟨⟨k, k + 1, rfl, rfl, by omega, by omega, by omega, by omega, HP, trivial⟩, by simp [intOf]; omega⟩
        · rw [if_neg hq] at hp
          have HP := Lib.hid hp
          clear hp hP
          have hqb : (bt s k == 45) = false := beq_eq_false_iff_ne.mpr hq
          go_wp2
          exact ⟨⟨a', k + 1, rfl, rfl, by omega, by omega, by omega, by omega, HP, trivial⟩, by simp [intOf]; omega⟩
      · obtain rfl : k = s.size := by omega
        have hp := hP.out
        rw [List.drop_of_length_le (by omega), lastP] at hp
        subst hp
        go_wp2
        have hb0 : Byt (Lib.bytesWorld wr 5 s) wr.heap.size (bytesOf s) := Byt.new wr 5 s
        have hbel0 : Below wr.heap.size wr (Lib.bytesWorld wr 5 s) := bytes_below (Below.refl _ _) (Nat.le_refl _) _ _
        clear kb
        generalize Lib.bytesWorld wr 5 s = w3 at *
        generalize wr = W0 at *
        go_loopw [12] (fun v wr => ∃ (k : Int) (xs : List Int), v = .int .i64 k ∧ a' + 1 ≤ k ∧ k ≤ s.size ∧ xs.length = s.size ∧ Hid (∀ i, 0 ≤ i → i < k → rd xs i = rd (lowT (bytesOf s)) i) ∧ Hid (∀ i, k ≤ i → i < s.size → rd xs i = rd (bytesOf s) i) ∧ Below W0.heap.size W0 wr ∧ Byt wr W0.heap.size xs) (fun v _ => s.size - (intOf v).toNat)
        case atStart =>
          refine ⟨a' + 1, bytesOf s, rfl, by omega, by omega, hl0, fun i h0 h1 => ?_, fun i h0 h1 => rfl, hbel0, hb0⟩
          rw [Hlow.out i h0 (by omega), if_pos h1]
        case round =>
          obtain ⟨k, xs, rfl, hk0, hk1, hxl, hd, hr, hbel, hb⟩ := hrel
          by_cases hlt : k < s.size
          · have c0 := hb.cell k (by omega) (by omega)
            have c1 := hb.frozen k (by omega) (by omega)
            rw [hr.out k (by omega) hlt, rd_bytesOf] at c0
            have hbr := bt_range s k
            have hlk := Hlow.out k (by omega) (by omega)
            rw [if_neg (by omega), rd_bytesOf] at hlk
            unfold sml at hlk
            have HLk := Lib.hid hlk
            clear hlk
            by_cases hq : 65 ≤ bt s k ∧ bt s k ≤ 90
            · obtain ⟨q0, q1⟩ := hq
              go_wp2
              refine ⟨⟨k + 1, xs.set k.toNat _, rfl, by omega, by omega, by rw [List.length_set, hxl], fun i h0 h1 => ?_, fun i h0 h1 => ?_, below_set hbel (Nat.le_refl _) _, hb.set_ k (by omega) (by omega) _⟩, by simp [intOf]; omega⟩
              · rw [rd_set xs k i _ (by omega) (by omega) h0]
                by_cases h : i = k
                · rw [if_pos h, h, HLk.out, if_pos ⟨q0, q1⟩]
                · rw [if_neg h]; exact hd.out i h0 (by omega)
              · rw [rd_set xs k i _ (by omega) (by omega) (by omega), if_neg (by omega)]
                exact hr.out i (by omega) h1
            · go_wp2
              all_goals
                refine ⟨⟨k + 1, xs, rfl, by omega, by omega, hxl, fun i h0 h1 => ?_, fun i h0 h1 => hr.out i (by omega) h1, hbel, hb⟩, by simp [intOf]; omega⟩
                by_cases h : i = k
                · rw [h, hr.out k (by omega) hlt, HLk.out, if_neg hq, rd_bytesOf]
                · exact hd.out i h0 (by omega)
          · obtain rfl : k = s.size := by omega
            have hx : xs = lowT (bytesOf s) := ext_rd (by omega) fun i h0 h1 => hd.out i h0 (by omega)
            subst hx
            have HR4 := Lib.hid (HR2.out.below hbel)
            have hbb4 := below_after hbb2 hbel
            generalize lowT (bytesOf s) = t at *
            have HB := Lib.hid hb
            go_wp2
            go_loopw [83] (fun v wq => ∃ k : Nat, v = .int .i64 (k : Int) ∧ k ≤ l.length ∧ wq = wr) (fun v _ => l.length - (intOf v).toNat)
            case atStart => exact ⟨0, rfl, by omega, rfl⟩
            case round =>
              obtain ⟨k, rfl, hk, rfl⟩ := hrel
              by_cases hlt : k < l.length
              · obtain ⟨ad, rfl, d0⟩ := HR4.out.at_ k (by omega) (by omega)
                simp only [Int.toNat_natCast] at d0
                have hs1 : scl (rd l k) = true := Hscl.out _ (by
                  have e : rd l k = l[k] := by simp [rd, List.getD_eq_getElem?_getD, List.getElem?_eq_getElem hlt]
                  rw [e]; exact List.getElem_mem _)
                have hs2 := of_decide_eq_true hs1
                have hs3 := scl_range hs1
                clear hs1
                rcases hs2 with hs2 | hs2
                all_goals
                  go_wp2
                  exact ⟨⟨k + 1, rfl, by omega, trivial⟩, by simp [intOf]; omega⟩
              · obtain rfl : k = l.length := by omega
                go_wp2_with (first
                  | (go_at_call 12; (with_reducible refine (HE.out _ _ _ hk2 HR4.out hbb4).mono ?_); rintro e w5 ⟨rfl, hb5⟩; have hbb5 := below_after hbb4 hb5; have ht5 := fun cap => (HB.out.after hb5).text (P := Tryd.prog) Tryd.underlying35 Tryd.underlying5 Tryd.underlying9 cap; rw [hxl] at ht5))
                go_ret
                exact ⟨by simp, hbb5⟩
  · have hnil := herr hc
    subst hnil
    have hcb : (c != 0) = true := bne_iff_ne.mpr hc
    clear herr htx hr1 hr2 hat0 hd
    go_enter Tryd.func4, Tryd.ntmps4
    go_wp2_with (first
      | (go_at_call 11; (with_reducible refine (Haw.out).mono ?_); rintro e w1 ⟨rfl, hb1⟩)
      | (go_at_call 15; (with_reducible refine (HD.out _ hb1).mono ?_); rintro e w2 ⟨A2, k2, rfl, hR2, hk2, hb2⟩; have hbb2 := below_after hb1 hb2)
      | (go_at_call 16; (with_reducible refine (HR.out _).mono ?_); rintro e w3 ⟨A3, k3, rfl, hR3, hk3, hb3⟩; have hbb3 := below_after hbb2 hb3))
    go_ret
    exact ⟨by simp, hbb3⟩
end Go.Proofs.YtmjlkifmbhaiiaaDoor.V
