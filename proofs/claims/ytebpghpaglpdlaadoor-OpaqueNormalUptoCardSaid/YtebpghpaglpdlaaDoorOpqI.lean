/- Opaque: the one way to write a host is its own, and says the same. Plain. -/
import Derived.Test.YtebpghpaglpdlaaDoorOpqF
import Derived.Test.YtebpghpaglpdlaaDoorOpqH
set_option linter.unusedVariables false
set_option linter.unusedSimpArgs false
namespace Go.Proofs.YtebpghpaglpdlaaDoor
open Go.RowKit Go.Proofs.YtebpghpaglpdlaaDoorW.PrintWords Go.Proofs.YtebpghpaglpdlaaDoorW.PrintLast
/-- the items of a text: is it coded? what does it say? -/
def itmF (t : ByteArray) (p : Int) : List (Bool × Int) := (Z.itemsF t p).map (fun p => (Z.isC t p, Z.byteC t p))
def itm (t : ByteArray) : List (Bool × Int) := itmF t 0
def enc2 (m : Bool × Int) : List Int := if m.1 = true then Z.codeL m.2 else [m.2]
def nor2 (m : Bool × Int) : List Int := if m.1 = true then (if freeB m.2 = true then [m.2] else Z.codeL m.2) else if m.2 = 37 then [37, 50, 53] else [m.2]
def st2 (m : Bool × Int) : Bool × Int := if m.1 = true then (if freeB m.2 = true then (false, m.2) else (true, m.2)) else if m.2 = 37 then (true, m.2) else (false, m.2)
theorem norB_2 (t : ByteArray) (p : Int) : norB t p = nor2 (Z.isC t p, Z.byteC t p) := by
  unfold norB nor2 Z.byteC
  by_cases hc : Z.isC t p = true
  · simp only [hc, if_true]
  · simp only [hc, if_false, Bool.false_eq_true]
theorem norL_2 (t : ByteArray) : norL t 0 = (itm t).flatMap nor2 := by
  unfold norL itm itmF
  rw [List.flatMap_map]
  congr 1
  funext p
  exact norB_2 t p
theorem decL_2 (t : ByteArray) : Z.decL t = (itm t).map (·.2) := by
  unfold Z.decL itm itmF
  rw [List.map_map]
  rfl
theorem free_37 : freeB 37 = false := by decide +kernel
theorem code_37 : Z.codeL 37 = [37, 50, 53] := by decide +kernel
theorem nor_st (m : Bool × Int) : nor2 m = enc2 (st2 m) := by
  unfold nor2 st2 enc2
  by_cases h1 : m.1 = true
  · rw [if_pos h1, if_pos h1]
    by_cases h2 : freeB m.2 = true
    · rw [if_pos h2, if_pos h2, if_neg (by simp)]
    · rw [if_neg h2, if_neg h2, if_pos rfl]
  · rw [if_neg h1, if_neg h1]
    by_cases h2 : m.2 = 37
    · rw [if_pos h2, if_pos h2, if_pos rfl, h2, code_37]
    · rw [if_neg h2, if_neg h2, if_neg (by simp)]
theorem st_snd (m : Bool × Int) : (st2 m).2 = m.2 := by
  unfold st2
  repeat' split
  all_goals rfl
theorem st_ok (m : Bool × Int) : ((st2 m).1 = true → freeB (st2 m).2 = false) ∧ ((st2 m).1 = false → (st2 m).2 ≠ 37) := by
  rw [st_snd]
  unfold st2
  by_cases h1 : m.1 = true
  · rw [if_pos h1]
    by_cases h2 : freeB m.2 = true
    · rw [if_pos h2]
      exact ⟨fun h => (by cases h), fun _ e => by rw [e, free_37] at h2; cases h2⟩
    · rw [if_neg h2]
      exact ⟨fun _ => by simpa using h2, fun h => by cases h⟩
  · rw [if_neg h1]
    by_cases h2 : m.2 = 37
    · rw [if_pos h2]
      exact ⟨fun _ => by rw [h2]; exact free_37, fun h => by cases h⟩
    · rw [if_neg h2]
      exact ⟨fun h => (by cases h), fun _ => h2⟩
/-- an item that stays as it is -/
def Own2 (m : Bool × Int) : Prop := 0 ≤ m.2 ∧ m.2 ≤ 255 ∧ (m.1 = false → m.2 ≠ 37)
theorem enc2_range {m : Bool × Int} (h : Own2 m) : ∀ x ∈ enc2 m, 0 ≤ x ∧ x ≤ 255 := by
  intro x hx
  have h0 := h.1
  have h1 := h.2.1
  unfold enc2 Z.codeL at hx
  have u1 := Z.up_range (m.2 / 16)
  have u2 := Z.up_range (m.2 % 16)
  split at hx <;> simp only [List.mem_cons, List.not_mem_nil, or_false] at hx
  · rcases hx with rfl | rfl | rfl
    · omega
    · exact u1
    · exact u2
  · omega
theorem enc2_len (m : Bool × Int) : 1 ≤ (enc2 m).length := by
  unfold enc2 Z.codeL
  split <;> simp
theorem itm_from (M : List (Bool × Int)) (hM : ∀ m ∈ M, Own2 m) : ∀ (suf pre : List (Bool × Int)), M = pre ++ suf → itmF (strOfNums (M.flatMap enc2)) ((pre.flatMap enc2).length : Int) = suf := by
  intro suf
  have hR : ∀ x ∈ M.flatMap enc2, 0 ≤ x ∧ x ≤ 255 := fun x hx => by
    rw [List.mem_flatMap] at hx
    obtain ⟨m, hm, hx⟩ := hx
    exact enc2_range (hM m hm) x hx
  have hz : (strOfNums (M.flatMap enc2)).size = (M.flatMap enc2).length := strOfNums_size _
  have hb : ∀ i : Int, 0 ≤ i → bt (strOfNums (M.flatMap enc2)) i = rd (M.flatMap enc2) i := fun i h0 => bt_strOfNums _ i h0 hR
  generalize strOfNums (M.flatMap enc2) = t at *
  induction suf with
  | nil =>
    intro pre hp
    rw [List.append_nil] at hp
    subst hp
    unfold itmF
    rw [← hz, Z.itemsF_end]
    rfl
  | cons m suf ih =>
    intro pre hp
    have ih := ih (pre ++ [m]) (by rw [hp]; simp)
    have hm : Own2 m := hM m (by rw [hp]; simp)
    have h0 := hm.1
    have h1 := hm.2.1
    have he : M.flatMap enc2 = pre.flatMap enc2 ++ (enc2 m ++ suf.flatMap enc2) := by
      rw [hp, List.flatMap_append, List.flatMap_cons]
    have hone : (pre ++ [m]).flatMap enc2 = pre.flatMap enc2 ++ enc2 m := by
      rw [List.flatMap_append, List.flatMap_cons, List.flatMap_nil, List.append_nil]
    rw [hone, List.length_append] at ih
    have hz2 : t.size = (pre.flatMap enc2).length + ((enc2 m).length + (suf.flatMap enc2).length) := by rw [hz, he, List.length_append, List.length_append]
    have hbb : ∀ i : Int, 0 ≤ i → i < (enc2 m).length → bt t ((pre.flatMap enc2).length + i) = rd (enc2 m) i := fun i h0 h1 => by
      rw [hb _ (by omega), he, rd_app_ge _ _ _ (by omega), rd_append_lt _ _ _ (by omega) (by omega)]
      congr 1
      omega
    have hlen := enc2_len m
    generalize ((pre.flatMap enc2).length : Nat) = P at *
    have hgo := Z.itemsF_go (s := t) (p := (P : Int)) (by omega)
    unfold itmF at ih ⊢
    rw [hgo, List.map_cons]
    cases hpx : m.1 with
    | true =>
      have hB : enc2 m = [37, bt Z.upT (m.2 / 16), bt Z.upT (m.2 % 16)] := by unfold enc2 Z.codeL; rw [if_pos hpx]
      rw [hB] at hbb ih hz2
      have b0 := hbb 0 (by omega) (by simp)
      have b1 := hbb 1 (by omega) (by simp)
      have b2 := hbb 2 (by omega) (by simp)
      have c0 : bt t P = 37 := by rw [Int.add_zero] at b0; exact b0
      have c1 : bt t (P + 1) = bt Z.upT (m.2 / 16) := b1
      have c2 : bt t (P + 2) = bt Z.upT (m.2 % 16) := b2
      have d1 := up_dig (m.2 / 16) (by omega) (by omega)
      have d2 := up_dig (m.2 % 16) (by omega) (by omega)
      have hc : Z.isC t P = true := by
        unfold Z.isC
        rw [c0, c1, c2, d1, d2, decide_eq_true (show (P : Int) + 2 < t.size by simp at hz2; omega), decide_eq_true (show (0 : Int) ≤ m.2 / 16 by omega), decide_eq_true (show (0 : Int) ≤ m.2 % 16 by omega)]
        rfl
      have e1 : Z.byteC t P = m.2 := by
        unfold Z.byteC Z.sayC
        rw [if_pos hc, c1, c2, d1, d2]
        omega
      have e2 : Z.nxtC t P = ((P + 3 : Nat) : Int) := by
        unfold Z.nxtC
        rw [if_pos hc]
        omega
      rw [e1, e2, hc]
      have hmm : (true, m.2) = m := by rw [← hpx]
      rw [hmm]
      congr 1
    | false =>
      have hB : enc2 m = [m.2] := by unfold enc2; rw [if_neg (by rw [hpx]; decide)]
      rw [hB] at hbb ih hz2
      have b0 := hbb 0 (by omega) (by simp)
      have c0 : bt t P = m.2 := by rw [Int.add_zero] at b0; exact b0
      have hn : m.2 ≠ 37 := hm.2.2 hpx
      have hc : Z.isC t P = false := by
        unfold Z.isC
        rw [c0, show (m.2 == 37) = false from beq_eq_false_iff_ne.2 hn]
        simp
      have e1 : Z.byteC t P = m.2 := by
        unfold Z.byteC
        rw [if_neg (by rw [hc]; decide), c0]
      have e2 : Z.nxtC t P = ((P + 1 : Nat) : Int) := by
        unfold Z.nxtC
        rw [if_neg (by rw [hc]; decide)]
        omega
      rw [e1, e2, hc]
      have hmm : (false, m.2) = m := by rw [← hpx]
      rw [hmm]
      congr 1
theorem itm_back (M : List (Bool × Int)) (hM : ∀ m ∈ M, Own2 m) : itm (strOfNums (M.flatMap enc2)) = M := itm_from M hM M [] rfl
theorem itm_range (t : ByteArray) : ∀ m ∈ itm t, 0 ≤ m.2 ∧ m.2 ≤ 255 := by
  intro m hm
  unfold itm itmF at hm
  obtain ⟨p, hp, rfl⟩ := List.mem_map.1 hm
  exact Z.byteC_range t p
theorem nor_enc (t : ByteArray) : norL t 0 = ((itm t).map st2).flatMap enc2 := by
  rw [norL_2, List.flatMap_map]
  congr 1
  funext m
  exact nor_st m
theorem st_own (t : ByteArray) : ∀ m ∈ (itm t).map st2, Own2 m := by
  intro m hm
  obtain ⟨q, hq, rfl⟩ := List.mem_map.1 hm
  have := itm_range t q hq
  unfold Own2
  rw [st_snd]
  exact ⟨this.1, this.2, fun h => by have := (st_ok q).2 h; rw [st_snd] at this; exact this⟩
theorem itm_nor (t : ByteArray) : itm (norS t) = (itm t).map st2 := by
  unfold norS
  rw [nor_enc]
  exact itm_back _ (st_own t)
/-- the one way to write says the same -/
theorem nor_says (t : ByteArray) : Z.decS (norS t) = Z.decS t := by
  unfold Z.decS
  rw [decL_2, decL_2, itm_nor, List.map_map]
  congr 2
  funext m
  exact st_snd m
theorem st_st (m : Bool × Int) : st2 (st2 m) = st2 m := by
  have h := st_ok m
  have e : ∀ q : Bool × Int, (q.1 = true → freeB q.2 = false) → (q.1 = false → q.2 ≠ 37) → st2 q = q := by
    rintro ⟨a, b⟩ h1 h2
    unfold st2
    cases a with
    | true => rw [if_pos rfl, if_neg (by rw [h1 rfl]; decide)]
    | false => rw [if_neg (by simp), if_neg (h2 rfl)]
  exact e _ h.1 h.2
/-- the one way to write is its own -/
theorem nor_nor (t : ByteArray) : norS (norS t) = norS t := by
  have h := nor_enc (norS t)
  rw [itm_nor, List.map_map] at h
  have e : (st2 ∘ st2) = st2 := funext st_st
  rw [e, ← nor_enc] at h
  unfold norS at h ⊢
  rw [h]
theorem free_ok (b : Int) (h0 : 0 ≤ b) (h1 : b ≤ 255) (h : freeB b = true) : okP b := by
  have key : ∀ n : Fin 256, freeB (n.val : Int) = true → 32 ≤ (n.val : Int) ∧ (n.val : Int) ≤ 126 ∧ inT (n.val : Int) 9 = false := by decide +kernel
  have := key ⟨b.toNat, by omega⟩
  rw [show ((b.toNat : Nat) : Int) = b by omega] at this
  exact this h
theorem code_ok (b : Int) (h0 : 0 ≤ b) (h1 : b ≤ 255) : ∀ x ∈ Z.codeL b, okP x := by
  intro x hx
  unfold Z.codeL at hx
  simp only [List.mem_cons, List.not_mem_nil, or_false] at hx
  rcases hx with rfl | rfl | rfl
  · exact pct_ok
  · exact up_ok _ (by omega) (by omega)
  · exact up_ok _ (by omega) (by omega)
theorem items_in (t : ByteArray) (n : Nat) : ∀ p : Int, 0 ≤ p → (t.size : Int) - p = n → ∀ q ∈ Z.itemsF t p, 0 ≤ q ∧ q < t.size := by
  induction n using Nat.strongRecOn with
  | ind n ih =>
    intro p h0 h1 q hq
    by_cases hlt : p < t.size
    · rw [Z.itemsF_go hlt] at hq
      have hg := Z.nxtC_gt t p
      have hl := Z.nxtC_le t p hlt
      rcases List.mem_cons.1 hq with rfl | hq
      · exact ⟨h0, hlt⟩
      · exact ih (t.size - Z.nxtC t p).toNat (by omega) (Z.nxtC t p) (by omega) (by omega) q hq
    · obtain rfl : p = t.size := by omega
      rw [Z.itemsF_end] at hq
      cases hq
/-- of bytes that Parse lets stand nothing else is made -/
theorem nor_ok (t : ByteArray) (h : ∀ i : Int, 0 ≤ i → i < t.size → okP (bt t i)) : ∀ b ∈ norL t 0, okP b := by
  intro b hb
  unfold norL at hb
  rw [List.mem_flatMap] at hb
  obtain ⟨p, hp, hb⟩ := hb
  have hi := items_in t t.size 0 (by omega) (by omega) p hp
  unfold norB at hb
  by_cases hc : Z.isC t p = true
  · have hs := sayC_range t p hc
    rw [if_pos hc] at hb
    by_cases hf : freeB (Z.sayC t p) = true
    · rw [if_pos hf] at hb
      obtain rfl := List.mem_singleton.1 hb
      exact free_ok _ hs.1 hs.2 hf
    · rw [if_neg hf] at hb
      exact code_ok _ hs.1 hs.2 b hb
  · rw [if_neg hc] at hb
    by_cases h37 : bt t p = 37
    · rw [if_pos h37, ← code_37] at hb
      exact code_ok 37 (by omega) (by omega) b hb
    · rw [if_neg h37] at hb
      obtain rfl := List.mem_singleton.1 hb
      exact h p hi.1 hi.2
theorem strOf_at (E : List Int) (h : ∀ b ∈ E, okP b) : ∀ i : Int, 0 ≤ i → i < (strOfNums E).size → okP (bt (strOfNums E) i) := fun i h0 h1 => by
  have e : bytesOf (strOfNums E) = E := bytesOf_strOfNums _ (fun x hx => by have := (h x hx).ascii; omega)
  have hl := bytesOf_length (strOfNums E)
  refine h _ ?_
  rw [← rd_bytesOf _ i]
  rw [e] at hl ⊢
  unfold rd
  rw [List.getD_eq_getElem?_getD, List.getElem?_eq_getElem (by omega)]
  exact List.getElem_mem _
/-! ### Escape -/
theorem escP_is (b : Int) (h0 : 0 ≤ b) (h1 : b ≤ 255) : escP b = true ∨ okP b := by
  have key : ∀ n : Fin 256, escP (n.val : Int) = true ∨ (32 ≤ (n.val : Int) ∧ (n.val : Int) ≤ 126 ∧ inT (n.val : Int) 9 = false) := by decide +kernel
  have := key ⟨b.toNat, by omega⟩
  rw [show ((b.toNat : Nat) : Int) = b by omega] at this
  exact this
theorem esc_ok (s : ByteArray) : ∀ b ∈ Z.encL escP (bytesOf s), okP b := by
  intro b hb
  unfold Z.encL at hb
  rw [List.mem_flatMap] at hb
  obtain ⟨x, hx, hb⟩ := hb
  have hr := mem_bytesOf hx
  unfold Z.encB at hb
  by_cases he : escP x = true
  · rw [if_pos he] at hb
    exact code_ok x hr.1 hr.2 b hb
  · rw [if_neg he] at hb
    obtain rfl := List.mem_singleton.1 hb
    rcases escP_is b hr.1 hr.2 with g | g
    · exact absurd g he
    · exact g
theorem esc_says (s : ByteArray) (h : ∀ i : Int, 0 ≤ i → i < s.size → bt s i ≠ 37) : Z.decS (escS s) = s := by
  unfold escS
  rw [dec_enc_pct _ _ (fun x hx => mem_bytesOf hx) fun x hx e => by
    subst e
    obtain ⟨i, hi, e⟩ := List.mem_iff_getElem.1 hx
    have hl := bytesOf_length s
    refine absurd ?_ (h (i : Int) (by omega) (by omega))
    rw [← rd_bytesOf]
    unfold rd
    rw [List.getD_eq_getElem?_getD, Int.toNat_natCast, List.getElem?_eq_getElem hi]
    exact e]
  exact strOfNums_bytesOf s
theorem allF_nil {f : Int → Bool} {l : List (Int × Pc)} : allF f l = [] ↔ ∀ p ∈ l, f p.2.rune = false := by
  induction l with
  | nil => exact ⟨fun _ p hp => (by cases hp), fun _ => rfl⟩
  | cons q l ih =>
    unfold allF
    cases hq : f q.2.rune with
    | true => simp [hq]
    | false => simp [hq, ih]
theorem ok_all (E : List Int) (h : ∀ b ∈ E, okP b) : allF (fun r => inT r 9) (pcs (strOfNums E) 0) = [] := by
  rw [allF_nil]
  intro p hp
  have ha : ∀ b ∈ E, 0 ≤ b ∧ b < 128 := fun b hb => (h b hb).ascii
  have hm : p.2.rune ∈ decT (strOfNums E) := by unfold decT; exact List.mem_map.2 ⟨p, hp, rfl⟩
  rw [ascii_dec ha] at hm
  exact (h _ hm).2.2
theorem fst_all (s : ByteArray) : fstF (fun r => inT r 9) (pcs s 0) < 0 ↔ allF (fun r => inT r 9) (pcs s 0) = [] := by
  rw [allF_nil]
  exact ⟨fun h => fstF_all (fun p hp => ((To.all s s.size 0 (by omega) (by omega) (by omega)).mem (by omega) p hp).1) h, fun h => by rw [fstF_none h]; decide⟩
/-! ### how long the one way to write is -/
theorem dig37 : Z.dig 37 16 = -1 := by decide +kernel
theorem nor_len (p : Int → Bool) (L : List Int) (hL : ∀ x ∈ L, 0 ≤ x ∧ x ≤ 255) : (norL (strOfNums (Z.encL p L)) 0).length ≤ 3 * L.length := by
  have hR := Z.encL_range p L hL
  have hz : (strOfNums (Z.encL p L)).size = (Z.encL p L).length := strOfNums_size _
  have hb : ∀ i : Int, 0 ≤ i → bt (strOfNums (Z.encL p L)) i = rd (Z.encL p L) i := fun i h0 => bt_strOfNums _ i h0 hR
  generalize strOfNums (Z.encL p L) = t at *
  have hone : ∀ (pre : List Int) (y : Int), Z.encL p (pre ++ [y]) = Z.encL p pre ++ Z.encB p y := fun pre y => by
    rw [Z.encL_append]
    congr 1
    simp [Z.encL]
  have hlen1 : ∀ (pre : List Int) (y : Int), (Z.encL p (pre ++ [y])).length = (Z.encL p pre).length + (if p y = true then 3 else 1) := fun pre y => by
    rw [hone, List.length_append]
    unfold Z.encB Z.codeL
    split <;> rfl
  have hcut : ∀ (pre suf : List Int) (y : Int), L = pre ++ y :: suf → t.size = (Z.encL p pre).length + ((Z.encB p y).length + (Z.encL p suf).length) ∧ ∀ i : Int, 0 ≤ i → i < (Z.encB p y).length → bt t ((Z.encL p pre).length + i) = rd (Z.encB p y) i := fun pre suf y hp => by
    have he : Z.encL p L = Z.encL p pre ++ (Z.encB p y ++ Z.encL p suf) := by
      rw [hp, Z.encL_append]
      congr 1
    refine ⟨by rw [hz, he, List.length_append, List.length_append], fun i h0 h1 => ?_⟩
    rw [hb _ (by omega), he, rd_app_ge _ _ _ (by omega), rd_append_lt _ _ _ (by omega) (by omega)]
    congr 1
    omega
  have hhead : ∀ (pre suf : List Int) (y : Int), L = pre ++ y :: suf → bt t ((Z.encL p pre).length : Int) = if p y = true then 37 else y := fun pre suf y hp => by
    have h := (hcut pre suf y hp).2 0 (by omega) (by have := Z.encB_len p y; omega)
    rw [Int.add_zero] at h
    rw [h]
    unfold Z.encB Z.codeL
    split <;> rfl
  have key : ∀ (n : Nat) (suf pre : List Int), suf.length = n → L = pre ++ suf → (norL t ((Z.encL p pre).length : Int)).length ≤ 3 * suf.length := by
    intro n
    induction n using Nat.strongRecOn with
    | ind n ih =>
      intro suf pre hn hp
      cases suf with
      | nil =>
        rw [List.append_nil] at hp
        rw [← hp, ← hz, norL_end]
        simp
      | cons x suf =>
        have hc := hcut pre suf x hp
        have hbl := Z.encB_len p x
        have hlt : ((Z.encL p pre).length : Int) < t.size := by omega
        rw [norL_go hlt, List.length_append, List.length_cons]
        rw [List.length_cons] at hn
        have hnb := norB_len t ((Z.encL p pre).length : Int)
        have next1 : Z.nxtC t ((Z.encL p pre).length : Int) = ((Z.encL p (pre ++ [x])).length : Int) → (norB t ((Z.encL p pre).length : Int)).length + (norL t (Z.nxtC t ((Z.encL p pre).length : Int))).length ≤ 3 * (suf.length + 1) := fun e => by
          rw [e]
          have := ih suf.length (by omega) suf (pre ++ [x]) rfl (by rw [hp]; simp)
          omega
        cases hpx : p x with
        | true =>
          refine next1 ?_
          have hx := hL x (by rw [hp]; simp)
          have hB : Z.encB p x = [37, bt Z.upT (x / 16), bt Z.upT (x % 16)] := by unfold Z.encB Z.codeL; rw [if_pos hpx]
          have hbb := hc.2
          have hs := hc.1
          rw [hB] at hbb hs
          have b0 := hbb 0 (by omega) (by simp)
          have b1 := hbb 1 (by omega) (by simp)
          have b2 := hbb 2 (by omega) (by simp)
          have c0 : bt t ((Z.encL p pre).length : Int) = 37 := by rw [Int.add_zero] at b0; exact b0
          have c1 : bt t (((Z.encL p pre).length : Int) + 1) = bt Z.upT (x / 16) := b1
          have c2 : bt t (((Z.encL p pre).length : Int) + 2) = bt Z.upT (x % 16) := b2
          have d1 := up_dig (x / 16) (by omega) (by omega)
          have d2 := up_dig (x % 16) (by omega) (by omega)
          have hC : Z.isC t ((Z.encL p pre).length : Int) = true := by
            unfold Z.isC
            rw [c0, c1, c2, d1, d2, decide_eq_true (show ((Z.encL p pre).length : Int) + 2 < t.size by simp at hs; omega), decide_eq_true (show (0 : Int) ≤ x / 16 by omega), decide_eq_true (show (0 : Int) ≤ x % 16 by omega)]
            rfl
          unfold Z.nxtC
          rw [if_pos hC, hlen1, if_pos hpx]
          omega
        | false =>
          cases hC : Z.isC t ((Z.encL p pre).length : Int) with
          | false =>
            refine next1 ?_
            unfold Z.nxtC
            rw [if_neg (by rw [hC]; decide), hlen1, if_neg (by rw [hpx]; decide)]
            omega
          | true =>
            have hC2 := hC
            unfold Z.isC at hC2
            simp only [Bool.and_eq_true, decide_eq_true_eq] at hC2
            obtain ⟨⟨⟨g0, -⟩, g1⟩, g2⟩ := hC2
            have l1 := hlen1 pre x
            rw [if_neg (by rw [hpx]; decide)] at l1
            have hs := hc.1
            have hB : (Z.encB p x).length = 1 := by unfold Z.encB; rw [if_neg (by rw [hpx]; decide)]; rfl
            rw [hB] at hs
            cases suf with
            | nil =>
              rw [show (Z.encL p []).length = 0 from rfl] at hs
              omega
            | cons y suf =>
              have hp1 : L = (pre ++ [x]) ++ y :: suf := by rw [hp]; simp
              have h1 := hhead (pre ++ [x]) suf y hp1
              have l2 := hlen1 (pre ++ [x]) y
              rw [l1] at h1 l2
              rw [show (((Z.encL p pre).length + 1 : Nat) : Int) = ((Z.encL p pre).length : Int) + 1 by omega] at h1
              have hpy : p y = false := by
                cases hpy : p y with
                | false => rfl
                | true =>
                  rw [hpy, if_pos rfl] at h1
                  rw [h1, dig37] at g1
                  omega
              rw [if_neg (by rw [hpy]; decide)] at l2
              have hc1 := (hcut (pre ++ [x]) suf y hp1).1
              have hB1 : (Z.encB p y).length = 1 := by unfold Z.encB; rw [if_neg (by rw [hpy]; decide)]; rfl
              rw [hB1, l1] at hc1
              cases suf with
              | nil =>
                rw [show (Z.encL p []).length = 0 from rfl] at hc1
                omega
              | cons z suf =>
                have hp2 : L = (pre ++ [x] ++ [y]) ++ z :: suf := by rw [hp]; simp
                have h2 := hhead (pre ++ [x] ++ [y]) suf z hp2
                have l3 := hlen1 (pre ++ [x] ++ [y]) z
                rw [l2] at h2 l3
                rw [show (((Z.encL p pre).length + 1 + 1 : Nat) : Int) = ((Z.encL p pre).length : Int) + 2 by omega] at h2
                have hpz : p z = false := by
                  cases hpz : p z with
                  | false => rfl
                  | true =>
                    rw [hpz, if_pos rfl] at h2
                    rw [h2, dig37] at g2
                    omega
                rw [if_neg (by rw [hpz]; decide)] at l3
                have e : Z.nxtC t ((Z.encL p pre).length : Int) = ((Z.encL p (pre ++ [x] ++ [y] ++ [z])).length : Int) := by
                  unfold Z.nxtC
                  rw [if_pos hC, l3]
                  omega
                rw [e]
                simp only [List.length_cons] at hn ⊢
                have := ih suf.length (by omega) suf (pre ++ [x] ++ [y] ++ [z]) rfl (by rw [hp]; simp)
                omega
  have := key L.length L [] rfl rfl
  rw [show ((Z.encL p []).length : Int) = 0 from rfl] at this
  exact this
end Go.Proofs.YtebpghpaglpdlaaDoor
