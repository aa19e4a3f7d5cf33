/- Percent: forms, plain; what is coded is decoded to what it was. -/
import Derived.Test.YtfbgmlophkbejaaDoorOpZ
import Derived.Test.YtfbgmlophkbejaaDoorOpO
import Derived.Lib.ReplaceLaws
set_option linter.unusedVariables false
set_option linter.unusedSimpArgs false
namespace Go.Proofs.YtfbgmlophkbejaaDoor
open Go.RowKit Go.Proofs.YtfbgmlophkbejaaDoorW.PrintWords Go.Proofs.YtfbgmlophkbejaaDoorW.PrintLast
theorem rd_app_ge_ (l r : List Int) (i : Int) (h : l.length ≤ i) : rd (l ++ r) i = rd r (i - l.length) := by
  unfold rd
  rw [List.getD_eq_getElem?_getD, List.getD_eq_getElem?_getD, List.getElem?_append_right (by omega), show i.toNat - l.length = (i - l.length).toNat by omega]
theorem up_dig (x : Int) (h0 : 0 ≤ x) (h1 : x < 16) : Z.dig (bt Z.upT x) 16 = x := by
  have key : ∀ n : Fin 16, Z.dig (bt Z.upT (n.val : Int)) 16 = (n.val : Int) := by decide +kernel
  have := key ⟨x.toNat, by omega⟩
  rw [show ((x.toNat : Nat) : Int) = x by omega] at this
  exact this
theorem pct_back (p : Int → Bool) (L : List Int) (hL : ∀ x ∈ L, 0 ≤ x ∧ x ≤ 255) (h37 : ∀ x ∈ L, x = 37 → p x = true) : ∀ (suf pre : List Int), L = pre ++ suf → (Z.itemsF (strOfNums (Z.encL p L)) ((Z.encL p pre).length : Int)).map (Z.byteC (strOfNums (Z.encL p L))) = suf := by
  intro suf
  have hR := Z.encL_range p L hL
  have hz : (strOfNums (Z.encL p L)).size = (Z.encL p L).length := strOfNums_size _
  have hb : ∀ i : Int, 0 ≤ i → bt (strOfNums (Z.encL p L)) i = rd (Z.encL p L) i := fun i h0 => bt_strOfNums _ i h0 hR
  generalize strOfNums (Z.encL p L) = t at *
  induction suf with
  | nil =>
    intro pre hp
    rw [List.append_nil] at hp
    subst hp
    rw [← hz, Z.itemsF_end]
    rfl
  | cons x suf ih =>
    intro pre hp
    have ih := ih (pre ++ [x]) (by rw [hp]; simp)
    have hx : x ∈ L := by rw [hp]; simp
    have hx1 := hL x hx
    have he : Z.encL p L = Z.encL p pre ++ (Z.encB p x ++ Z.encL p suf) := by
      rw [hp, Z.encL_append]
      congr 1
    have hone : Z.encL p (pre ++ [x]) = Z.encL p pre ++ Z.encB p x := by
      rw [Z.encL_append]
      congr 1
      simp [Z.encL]
    rw [hone, List.length_append] at ih
    have hz2 : t.size = (Z.encL p pre).length + ((Z.encB p x).length + (Z.encL p suf).length) := by rw [hz, he, List.length_append, List.length_append]
    have hbb : ∀ i : Int, 0 ≤ i → i < (Z.encB p x).length → bt t ((Z.encL p pre).length + i) = rd (Z.encB p x) i := fun i h0 h1 => by
      rw [hb _ (by omega), he, rd_app_ge_ _ _ _ (by omega), rd_append_lt _ _ _ (by omega) (by omega)]
      congr 1
      omega
    have hlen := Z.encB_len p x
    generalize ((Z.encL p pre).length : Nat) = P at *
    have hgo := Z.itemsF_go (s := t) (p := (P : Int)) (by omega)
    rw [hgo, List.map_cons]
    cases hpx : p x with
    | true =>
      have hB : Z.encB p x = [37, bt Z.upT (x / 16), bt Z.upT (x % 16)] := by unfold Z.encB Z.codeL; rw [if_pos hpx]
      rw [hB] at hbb ih hz2
      have b0 := hbb 0 (by omega) (by simp)
      have b1 := hbb 1 (by omega) (by simp)
      have b2 := hbb 2 (by omega) (by simp)
      have c0 : bt t P = 37 := by rw [Int.add_zero] at b0; exact b0
      have c1 : bt t (P + 1) = bt Z.upT (x / 16) := b1
      have c2 : bt t (P + 2) = bt Z.upT (x % 16) := b2
      have d1 := up_dig (x / 16) (by omega) (by omega)
      have d2 := up_dig (x % 16) (by omega) (by omega)
      have hc : Z.isC t P = true := by
        unfold Z.isC
        rw [c0, c1, c2, d1, d2, decide_eq_true (show (P : Int) + 2 < t.size by simp at hz2; omega), decide_eq_true (show (0 : Int) ≤ x / 16 by omega), decide_eq_true (show (0 : Int) ≤ x % 16 by omega)]
        rfl
      have e1 : Z.byteC t P = x := by
        unfold Z.byteC Z.sayC
        rw [if_pos hc, c1, c2, d1, d2]
        omega
      have e2 : Z.nxtC t P = ((P + 3 : Nat) : Int) := by
        unfold Z.nxtC
        rw [if_pos hc]
        omega
      rw [e1, e2]
      congr 1
    | false =>
      have hB : Z.encB p x = [x] := by unfold Z.encB; rw [if_neg (by rw [hpx]; decide)]
      rw [hB] at hbb ih hz2
      have b0 := hbb 0 (by omega) (by simp)
      have c0 : bt t P = x := by rw [Int.add_zero] at b0; exact b0
      have hn : x ≠ 37 := fun e => by have := h37 x hx e; rw [hpx] at this; cases this
      have hc : Z.isC t P = false := by
        unfold Z.isC
        rw [c0, show (x == 37) = false from beq_eq_false_iff_ne.2 hn]
        simp
      have e1 : Z.byteC t P = x := by
        unfold Z.byteC
        rw [if_neg (by rw [hc]; decide), c0]
      have e2 : Z.nxtC t P = ((P + 1 : Nat) : Int) := by
        unfold Z.nxtC
        rw [if_neg (by rw [hc]; decide)]
        omega
      rw [e1, e2]
      congr 1
/-- what is coded, decoded, is what it was: without percent signs, or if these are coded -/
theorem dec_enc_pct (p : Int → Bool) (L : List Int) (hL : ∀ x ∈ L, 0 ≤ x ∧ x ≤ 255) (h37 : ∀ x ∈ L, x = 37 → p x = true) : Z.decS (strOfNums (Z.encL p L)) = strOfNums L := by
  unfold Z.decS Z.decL
  have := pct_back p L hL h37 L [] rfl
  rw [show ((Z.encL p []).length : Int) = 0 from rfl] at this
  rw [this]

/-! ### one byte for another one -/
def repU (a b x : UInt8) : UInt8 := if x = a then b else x
theorem occ_one (s : List UInt8) (a : UInt8) (j : Nat) (hj : j < s.length) : Lib.occAt s [a] j = (a == s[j]) := by
  unfold Lib.occAt
  rw [List.drop_eq_getElem_cons hj]
  simp [List.isPrefixOf]
theorem map_none (a b : UInt8) (s : List UInt8) (h : ∀ j (hj : j < s.length), s[j] ≠ a) : s.map (repU a b) = s := by
  have : s.map (repU a b) = s.map id := List.map_congr_left fun x hx => by
    obtain ⟨j, hj, rfl⟩ := List.mem_iff_getElem.1 hx
    unfold repU
    rw [if_neg (h j hj)]
    rfl
  rw [this, List.map_id]
theorem rep_one (a b : UInt8) (n : Nat) : ∀ s : List UInt8, s.length = n → Lib.replaceK [a] [b] (Lib.count s [a]) s = s.map (repU a b) := by
  induction n using Nat.strongRecOn with
  | _ n ih =>
    intro s hn
    rcases Lib.index_spec s [a] with ⟨h1, h2⟩ | ⟨i, h1, h2, h3, h4⟩
    · rw [Lib.count_miss h1, map_none a b s fun j hj e => ?_]
      · rfl
      · have := h2 j (by omega)
        rw [occ_one s a j hj, e] at this
        simp at this
    · have hr := Lib.index_room s [a] (by omega)
      rw [h1] at hr
      simp only [List.length_singleton] at hr
      have hi : i < s.length := by omega
      rw [Lib.count_hit (by simp) h1, Nat.add_comm 1, Lib.replaceK_hit _ _ _ _ _ h1, List.length_singleton, ih (s.length - (i + 1)) (by omega) _ (by rw [List.length_drop])]
      rw [occ_one s a i hi] at h3
      have hs : s = s.take i ++ s[i] :: s.drop (i + 1) := by rw [← List.drop_eq_getElem_cons hi, List.take_append_drop]
      have ht : (s.take i).map (repU a b) = s.take i := map_none a b _ fun j hj e => by
        rw [List.length_take] at hj
        have := h4 j (by omega)
        rw [occ_one s a j (by omega)] at this
        rw [List.getElem_take] at e
        rw [e] at this
        simp at this
      have hb : repU a b s[i] = b := by
        unfold repU
        rw [if_pos (beq_iff_eq.1 h3).symm]
      conv => rhs; rw [hs, List.map_append, List.map_cons, ht, hb]
      rw [List.append_assoc]
      rfl
theorem rep_all (a b : UInt8) (s : List UInt8) (h : a ≠ b) : Lib.replaceAll s [a] [b] = s.map (repU a b) := by
  unfold Lib.replaceAll Lib.replace
  rw [if_neg (by simpa using h)]
  unfold Lib.replaceNum
  rw [if_pos (Or.inl (by omega))]
  exact rep_one a b _ s rfl
theorem count_le_one (s : List UInt8) (a : UInt8) (n : Nat) : ∀ s : List UInt8, s.length = n → Lib.count s [a] ≤ s.length := by
  induction n using Nat.strongRecOn with
  | _ n ih =>
    intro s hn
    rcases Lib.index_spec s [a] with ⟨h1, h2⟩ | ⟨i, h1, h2, h3, h4⟩
    · rw [Lib.count_miss h1]; omega
    · have hr := Lib.index_room s [a] (by omega)
      rw [h1] at hr
      simp only [List.length_singleton] at hr
      have := ih (s.length - (i + 1)) (by omega) (s.drop (i + 1)) (by rw [List.length_drop])
      rw [List.length_drop] at this
      rw [Lib.count_hit (by simp) h1, List.length_singleton]
      omega
/-- a number given way to another one -/
def repB (a b x : Int) : Int := if x = a then b else x
def repS (a b : Int) (s : ByteArray) : ByteArray := strOfNums ((bytesOf s).map (repB a b))
theorem rep_bytes (a b : UInt8) (s : ByteArray) (h : a ≠ b) : (⟨(Lib.replaceAll s.data.toList [a] [b]).toArray⟩ : ByteArray) = repS (a.toNat : Int) (b.toNat : Int) s := by
  rw [rep_all a b _ h]
  obtain ⟨⟨l⟩⟩ := s
  unfold repS strOfNums bytesOf
  simp only [List.map_map]
  congr 2
  refine List.map_congr_left fun x _ => ?_
  simp only [Function.comp_apply, repU, repB]
  by_cases e : x = a
  · subst e; simp
  · have : ¬ (x.toNat : Int) = (a.toNat : Int) := fun g => e (UInt8.toNat_inj.1 (by omega))
    rw [if_neg e, if_neg this]
    simp
theorem repS_size (a b : Int) (s : ByteArray) : (repS a b s).size = s.size := by unfold repS; rw [strOfNums_size, List.length_map, bytesOf_length]
/-! ### forms -/
def formW : List Int := [18158685217076805631, 17870283327714361345, 18446744073709551615, 18446744073709551615]
/-- a byte as a form has it -/
def formB (b : Int) : List Int := if b = 32 then [43] else Z.encB (inSet (nW 8)) b
def formS (s : ByteArray) : ByteArray := strOfNums ((bytesOf s).flatMap formB)
/-- what a form's text says -/
def fdecS (s : ByteArray) : ByteArray := Z.decS (repS 43 32 s)
theorem fin_all {p : Int → Prop} (h : ∀ n : Fin 256, p (n.val : Int)) (b : Int) (h0 : 0 ≤ b) (h1 : b ≤ 255) : p b := by
  have := h ⟨b.toNat, by omega⟩
  rw [show ((b.toNat : Nat) : Int) = b by omega] at this
  exact this
theorem form_one : ∀ b : Int, 0 ≤ b → b ≤ 255 → (Z.encB (inSet formW) b).map (repB 32 43) = formB b := fin_all (by decide +kernel)
theorem form_back : ∀ b : Int, 0 ≤ b → b ≤ 255 → (formB b).map (repB 43 32) = Z.encB (inSet formW) b := fin_all (by decide +kernel)
theorem formB_range (b : Int) (h : 0 ≤ b ∧ b ≤ 255) : ∀ x ∈ formB b, 0 ≤ x ∧ x ≤ 255 := by
  intro x hx
  unfold formB at hx
  split at hx
  · rw [List.mem_singleton.1 hx]; omega
  · exact Z.encB_range _ b h x hx
theorem formL_range (s : ByteArray) : ∀ x ∈ (bytesOf s).flatMap formB, 0 ≤ x ∧ x ≤ 255 := by
  intro x hx
  obtain ⟨b, hb, hx⟩ := List.mem_flatMap.1 hx
  exact formB_range b (mem_bytesOf hb) x hx
theorem flat_map_congr {f g : Int → List Int} (l : List Int) (h : ∀ b ∈ l, f b = g b) : l.flatMap f = l.flatMap g := by
  induction l with
  | nil => rfl
  | cons b l ih => rw [List.flatMap_cons, List.flatMap_cons, h b (List.mem_cons_self ..), ih fun x hx => h x (List.mem_cons_of_mem _ hx)]
theorem form_is (s : ByteArray) : repS 32 43 (strOfNums (Z.encL (inSet formW) (bytesOf s))) = formS s := by
  unfold repS formS
  rw [bytesOf_strOfNums _ (Z.encL_range _ _ fun b hb => mem_bytesOf hb)]
  unfold Z.encL
  rw [List.map_flatMap, flat_map_congr _ fun b hb => form_one b (mem_bytesOf hb).1 (mem_bytesOf hb).2]
theorem form_decodes (s : ByteArray) : fdecS (formS s) = s := by
  unfold fdecS formS repS
  rw [bytesOf_strOfNums _ (formL_range s), List.map_flatMap, flat_map_congr _ fun b hb => form_back b (mem_bytesOf hb).1 (mem_bytesOf hb).2]
  have := dec_enc_pct (inSet formW) (bytesOf s) (fun b hb => mem_bytesOf hb) (fun x _ e => by rw [e]; decide +kernel)
  rw [strOfNums_bytesOf] at this
  exact this
theorem formB_len (b : Int) : (formB b).length ≤ 3 := by
  unfold formB
  split
  · simp
  · exact (Z.encB_len _ b).2
theorem formL_len (l : List Int) : (l.flatMap formB).length ≤ 3 * l.length := by
  induction l with
  | nil => simp
  | cons b l ih =>
    have := formB_len b
    rw [List.flatMap_cons, List.length_append, List.length_cons]
    omega
theorem formS_size (s : ByteArray) : (formS s).size ≤ 3 * s.size := by
  have := formL_len (bytesOf s)
  unfold formS
  rw [strOfNums_size]
  rw [bytesOf_length] at this
  exact this
/-! ### back -/
theorem dec_len (s : ByteArray) : (Z.decL s).length ≤ s.size := by
  have := Z.itemsF_len s _ 0 (by omega) (by omega) rfl
  unfold Z.decL
  rw [List.length_map]
  omega
theorem decS_size (s : ByteArray) : (Z.decS s).size ≤ s.size := by unfold Z.decS; rw [strOfNums_size]; exact dec_len s
theorem decS_bytes (s : ByteArray) : bytesOf (Z.decS s) = Z.decL s := bytesOf_strOfNums _ (Z.decL_range s)
/-- what is coded with the percent sign says what it was -/
theorem enc_back (p : Int → Bool) (h : p 37 = true) (s : ByteArray) : Z.decS (strOfNums (Z.encL p (bytesOf s))) = s := by
  have := dec_enc_pct p (bytesOf s) (fun b hb => mem_bytesOf hb) (fun x _ e => by rw [e]; exact h)
  rw [strOfNums_bytesOf] at this
  exact this
theorem norm_dec (p : Int → Bool) (s : ByteArray) : Z.decS (Z.normS p s) = Z.decS s :=
  dec_enc_pct (Z.one37 p) (Z.decL s) (Z.decL_range s) (fun x _ e => by rw [e]; rfl)
theorem norm_norm (p : Int → Bool) (s : ByteArray) : Z.normS p (Z.normS p s) = Z.normS p s := by
  have h := congrArg bytesOf (norm_dec p s)
  rw [decS_bytes, decS_bytes] at h
  show strOfNums (Z.encL (Z.one37 p) (Z.decL (Z.normS p s))) = _
  rw [h]
  rfl
theorem normS_size (p : Int → Bool) (s : ByteArray) : (Z.normS p s).size ≤ 3 * s.size := by
  have h1 := Z.encL_len (Z.one37 p) (Z.decL s)
  have h2 := dec_len s
  unfold Z.normS
  rw [strOfNums_size]
  omega
end Go.Proofs.YtfbgmlophkbejaaDoor
