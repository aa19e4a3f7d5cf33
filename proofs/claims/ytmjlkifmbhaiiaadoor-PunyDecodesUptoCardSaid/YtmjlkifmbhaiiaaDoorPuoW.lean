/- PunyDecodes, PunyEncodes: what is left when the program is gone; the walks. -/
import Derived.Test.YtmjlkifmbhaiiaaDoorPuo
import Derived.Test.YtmjlkifmbhaiiaaDoorQPox8
import Derived.Test.YtmjlkifmbhaiiaaDoorQPox3
import Derived.Test.YtmjlkifmbhaiiaaDoorQPox7
import Derived.Test.YtmjlkifmbhaiiaaDoorQPox10
import Derived.Test.YtmjlkifmbhaiiaaDoorQPox0
set_option linter.unusedVariables false
set_option linter.unusedSimpArgs false
namespace Go.Proofs.YtmjlkifmbhaiiaaDoor.V
open Go.RowKit Go.Proofs.YtmjlkifmbhaiiaaDoorW.PrintWords Go.Proofs.YtmjlkifmbhaiiaaDoorW.PrintLast Go.Proofs.YtmjlkifmbhaiiaaDoorQ.Po
theorem C_of_ints {k : IntKind} {w : World} {A : Option Addr} {n : Nat} {l : List Int} (h : ReadsInt w k A n l) : Kd.C (Kd.int k) w A n l := Kd.C_of_reads (enc := Value.int k) (d := (0 : Int)) (h1 := fun _ => rfl) h
theorem same_l0 (l : List Int) (hl : l.length ≤ 16777216) : ∀ (m : Nat) (i : Int) (k : Nat), 0 ≤ i → (l.length : Int) = i + m → m + 1 ≤ k → posternlaw14_same.l0 k l l l.length i = some true := by
  intro m
  induction m with
  | zero =>
    intro i k h0 h1 hk
    obtain ⟨k, rfl⟩ : ∃ m, k = m + 1 := ⟨k - 1, by omega⟩
    rw [posternlaw14_same.l0, if_neg (by omega)]
  | succ m ih =>
    intro i k h0 h1 hk
    obtain ⟨k, rfl⟩ : ∃ m, k = m + 1 := ⟨k - 1, by omega⟩
    rw [posternlaw14_same.l0, if_pos (by omega), if_pos h0, if_pos (by omega), if_pos (by omega), if_pos rfl, w64 (i + 1) (by omega) (by omega)]
    exact ih (i + 1) k (by omega) (by omega) (by omega)
theorem same_is (k : Nat) (l : List Int) (hl : l.length ≤ 16777216) (hk : 16777217 ≤ k) : posternlaw14_same.f k l l = some true := by
  unfold posternlaw14_same.f
  rw [if_pos rfl]
  exact same_l0 l hl l.length 0 k (by omega) (by omega) (by omega)
/-- what decG answers is of code points, no longer than what it read -/
theorem decG_rng : ∀ (f : Nat) (L : List Int) (a : Int) (out : List Int) (n i b : Int), 0 ≤ n → 0 ≤ i → i ≤ out.length → i ≤ 2147483647 → (out.length : Int) + L.length ≤ 2147483646 → (∀ x ∈ out, 0 ≤ x ∧ x ≤ 1114111) → (∀ x ∈ (decG usual f L a out n i b).1, 0 ≤ x ∧ x ≤ 1114111) ∧ (decG usual f L a out n i b).1.length ≤ out.length + L.length := by
  intro f
  induction f with
  | zero => intro L a out n i b _ _ _ _ _ _; rw [decG]; exact ⟨fun x hx => by simp at hx, by simp⟩
  | succ f ih =>
    intro L a out n i b hn hi0 hi1 hi2 hs ho
    rw [decG]
    by_cases hL : L = []
    · rw [if_pos hL]; exact ⟨ho, by simp⟩
    rw [if_neg hL]
    have hok := num_ok usual_ok b L a i 1 usual.base hi0 hi2 (by omega)
    show (∀ x ∈ (if (num usual b L a i 1 usual.base).1 ≠ 0 then _ else _ : List Int × Int × Int).1, _) ∧ (if (num usual b L a i 1 usual.base).1 ≠ 0 then _ else _ : List Int × Int × Int).1.length ≤ _
    show (∀ x ∈ (let r := num usual b L a i 1 usual.base; _ : List Int × Int × Int).1, _) ∧ (let r := num usual b L a i 1 usual.base; _ : List Int × Int × Int).1.length ≤ _
    generalize num usual b L a i 1 usual.base = r at *
    by_cases hr : r.1 ≠ 0
    · rw [if_pos hr]; exact ⟨fun x hx => by simp at hx, by simp⟩
    rw [if_neg hr]
    obtain ⟨m, m1, m2, m3, m4, m5, m6⟩ := hok (Decidable.not_not.1 hr)
    by_cases hbig : 1114111 < n + r.2.2.1 / ((out.length : Int) + 1)
    · rw [if_pos hbig]; exact ⟨fun x hx => by simp at hx, by simp⟩
    rw [if_neg hbig]
    by_cases hsc : scl (n + r.2.2.1 / ((out.length : Int) + 1)) = false
    · rw [if_pos hsc]; exact ⟨fun x hx => by simp at hx, by simp⟩
    rw [if_neg hsc]
    have hq0 : 0 ≤ r.2.2.1 / ((out.length : Int) + 1) := Int.ediv_nonneg (by omega) (by omega)
    have hm0 : 0 ≤ r.2.2.1 % ((out.length : Int) + 1) := Int.emod_nonneg _ (by omega)
    have hm1 : r.2.2.1 % ((out.length : Int) + 1) < (out.length : Int) + 1 := Int.emod_lt_of_pos _ (by omega)
    have hN : 0 ≤ n + r.2.2.1 / ((out.length : Int) + 1) := by omega
    generalize adp usual (r.2.2.1 - i) ((out.length : Int) + 1) (i == 0) = B
    generalize r.2.2.1 % ((out.length : Int) + 1) = I at *
    generalize n + r.2.2.1 / ((out.length : Int) + 1) = N at *
    have hlen3 : (out.take I.toNat ++ N :: out.drop I.toNat).length = out.length + 1 := by simp only [List.length_append, List.length_take, List.length_cons, List.length_drop]; omega
    have hlen4 : r.2.2.2.length = L.length - m := by rw [m4, List.length_drop]
    obtain ⟨i1, i2⟩ := ih r.2.2.2 r.2.1 (out.take I.toNat ++ N :: out.drop I.toNat) N (I + 1) B hN (by omega) (by omega) (by omega) (by omega) (fun x hx => by
      rcases List.mem_append.1 hx with hx | hx
      · exact ho x (List.mem_of_mem_take hx)
      · rcases List.mem_cons.1 hx with rfl | hx
        · omega
        · exact ho x (List.mem_of_mem_drop hx))
    exact ⟨i1, by omega⟩
theorem dec_rng (s : ByteArray) (hs : s.size ≤ 16777216) : (∀ x ∈ (dec usual (bytesOf s)).1, 0 ≤ x ∧ x ≤ 1114111) ∧ (dec usual (bytesOf s)).1.length ≤ s.size := by
  have hl : (bytesOf s).length = s.size := bytesOf_length s
  have hb : ∀ x ∈ bytesOf s, 0 ≤ x ∧ x ≤ 255 := fun x h => mem_bytesOf h
  unfold dec
  by_cases h : 0 < lastP usual.btw (bytesOf s) 0 0
  · rw [if_pos h]
    by_cases h2 : 0 ≤ fstB (fun b => !bas usual b) ((bytesOf s).take (lastP usual.btw (bytesOf s) 0 0).toNat) 0
    · rw [if_pos h2]; exact ⟨fun x hx => by simp at hx, by simp⟩
    rw [if_neg h2]
    have hL : lastP usual.btw (bytesOf s) 0 0 < s.size := by
      rcases lastP_spec usual.btw (bytesOf s) 0 0 with ⟨h3, -⟩ | ⟨j, h1, -, -, h4⟩ <;> omega
    generalize lastP usual.btw (bytesOf s) 0 0 = d at *
    have e1 : ((bytesOf s).take d.toNat).length = d.toNat := by rw [List.length_take]; omega
    have e2 : ((bytesOf s).drop (d + 1).toNat).length = s.size - (d + 1).toNat := by rw [List.length_drop]; omega
    obtain ⟨i1, i2⟩ := decG_rng ((bytesOf s).length + 1) ((bytesOf s).drop (d + 1).toNat) (d + 1) ((bytesOf s).take d.toNat) usual.first 0 usual.bias (by simp [usual]) (by omega) (by omega) (by omega) (by omega) (fun x hx => by have := hb x (List.mem_of_mem_take hx); omega)
    exact ⟨i1, by omega⟩
  · rw [if_neg h]
    obtain ⟨i1, i2⟩ := decG_rng ((bytesOf s).length + 1) (bytesOf s) 0 [] usual.first 0 usual.bias (by simp [usual]) (by omega) (by simp) (by omega) (by simp only [List.length_nil]; omega) (fun x hx => by simp at hx)
    exact ⟨i1, by simp only [List.length_nil] at i2; omega⟩
theorem PDec_is (s : ByteArray) (hs : s.size ≤ 268435456) : puny_Decode.f s = some (dec usual (bytesOf s)) := by
  unfold puny_Decode.f puny_Usual.f
  simp only [Option.bind_some]
  have e : puny_boot_decode.f 36 1 26 38 700 72 128 45 s = some (dec usual (bytesOf s)) := by
    unfold puny_boot_decode.f decF
    rw [if_pos ⟨ok_okB usual_ok, hs⟩]
    rfl
  rw [e]
  rfl
theorem decodes_f (K : Nat) (hK : 600000000000001 ≤ K) (haw : posternlaw14_awake.f K = some true) (s : ByteArray) (hs : s.size ≤ 1048576) : posternlaw14_PunyDecodes.f K s = some true := by
  obtain ⟨q1, q2⟩ := dec_rng s (by omega)
  have hi : i32B (dec usual (bytesOf s)).1 = true := List.all_eq_true.2 fun x hx => decide_eq_true (by have := q1 x hx; omega)
  obtain ⟨K, rfl⟩ : ∃ m, K = m + 1 := ⟨K - 1, by omega⟩
  unfold posternlaw14_PunyDecodes.f
  rw [haw]
  simp only [Option.bind_some, if_true]
  rw [PDec_is s (by omega), RDecode_is s (by omega) (K + 1) (by omega)]
  simp only [Option.bind_some]
  rw [same_is (K + 1) _ (by omega) (by omega)]
  simp only [Option.bind_some, if_true, bne_self_eq_false]
  have hp : puny_Proper.f K s = some (if (dec usual (bytesOf s)).2.2 = 0 then (if (encP (dec usual (bytesOf s)).1).2.2 = 0 then ((encP (dec usual (bytesOf s)).1).1.toList == s.toList) else false) else false) := by
    unfold puny_Proper.f
    rw [PDec_is s (by omega)]
    simp only [Option.bind_some]
    rw [PEnc_is _ hi (by omega) K (by omega)]
    simp only [Option.bind_some]
    by_cases h1 : (dec usual (bytesOf s)).2.2 = 0
    · rw [if_pos h1, if_pos h1]
      by_cases h2 : (encP (dec usual (bytesOf s)).1).2.2 = 0
      · rw [if_pos h2, if_pos h2]
      · rw [if_neg h2, if_neg h2]
    · rw [if_neg h1, if_neg h1]
  rw [posternlaw14_PunyDecodes.j0, if_neg (by simp), REnc_is _ (by omega) K (by omega)]
  simp only [Option.bind_some]
  rw [hp]
  simp only [Option.bind_some]
  by_cases h1 : (dec usual (bytesOf s)).2.2 = 0
  · rw [if_pos h1, if_pos h1]
    by_cases h2 : (encP (dec usual (bytesOf s)).1).2.2 = 0
    · rw [if_pos h2, if_pos h2]; simp
    · rw [if_neg h2, if_neg h2]; simp
  · rw [if_neg h1, if_neg h1]; simp
theorem punyDecodes_any (s : ByteArray) (w : World) (hs : s.size ≤ 1048576) (T : Tabs w) : Calls Tryd.prog 6 #[.string s] w fun e w' => e = .returned (.bool true) ∧ Below w.heap.size w w' :=
  posternlaw14_PunyDecodes.calls 1125899906842624 s true w (decodes_f _ (by omega) awake2 s hs) T
end Go.Proofs.YtmjlkifmbhaiiaaDoor.V
