/- Opaque: what Parse gives is its own, and says what it was. Plain. -/
import Derived.Test.YtebpghpaglpdlaaDoorOpqC
set_option linter.unusedVariables false
set_option linter.unusedSimpArgs false
namespace Go.Proofs.YtebpghpaglpdlaaDoor
open Go.RowKit Go.Proofs.YtebpghpaglpdlaaDoorW.PrintWords Go.Proofs.YtebpghpaglpdlaaDoorW.PrintLast
theorem fstF_none {f : Int → Bool} {l : List (Int × Pc)} (h : ∀ p ∈ l, f p.2.rune = false) : fstF f l = -1 := by
  induction l with
  | nil => rfl
  | cons p l ih =>
    unfold fstF
    rw [h p (List.mem_cons_self ..)]
    exact ih (fun q hq => h q (List.mem_cons_of_mem _ hq))
theorem fstF_all {f : Int → Bool} {l : List (Int × Pc)} (h0 : ∀ p ∈ l, 0 ≤ p.1) (h : fstF f l < 0) : ∀ p ∈ l, f p.2.rune = false := by
  induction l with
  | nil => intro p hp; cases hp
  | cons q l ih =>
    unfold fstF at h
    cases hq : f q.2.rune with
    | true =>
      rw [hq] at h
      simp only [if_true] at h
      have := h0 q (List.mem_cons_self ..)
      omega
    | false =>
      rw [hq] at h
      simp only [Bool.false_eq_true, if_false] at h
      intro p hp
      rcases List.mem_cons.1 hp with rfl | hp
      · exact hq
      · exact ih (fun r hr => h0 r (List.mem_cons_of_mem _ hr)) h p hp
theorem fstF_mem {f : Int → Bool} {l : List (Int × Pc)} (h : 0 ≤ fstF f l) : ∃ p ∈ l, p.1 = fstF f l ∧ f p.2.rune = true := by
  induction l with
  | nil => exact absurd h (show ¬ (0 : Int) ≤ -1 by decide)
  | cons q l ih =>
    unfold fstF at h ⊢
    cases hq : f q.2.rune with
    | true => exact ⟨q, List.mem_cons_self .., by simp, hq⟩
    | false =>
      rw [hq] at h
      simp only [Bool.false_eq_true, if_false] at h ⊢
      obtain ⟨p, hp, e⟩ := ih h
      exact ⟨p, List.mem_cons_of_mem _ hp, e⟩
/-- an ASCII byte of what is written is a number of the list -/
theorem encB_low (r x : Int) (hr : scal r = true) (hx : x ∈ encB r) (h : x < 128) : x = r := by
  have hs := (scal_iff r).1 hr
  unfold encB at hx
  repeat' split at hx
  all_goals
    simp only [List.mem_cons, List.not_mem_nil, or_false] at hx
    omega
theorem encL_low (l : List Int) (hl : ∀ r ∈ l, scal r = true) (x : Int) (hx : x ∈ encL l) (h : x < 128) : x ∈ l := by
  unfold encL at hx
  rw [List.mem_flatMap] at hx
  obtain ⟨r, hr, hx⟩ := hx
  rw [encB_low r x (hl r hr) hx h]
  exact hr
theorem encL_ascii (l : List Int) (h : ∀ r ∈ l, r < 128) : encL l = l := by
  induction l with
  | nil => rfl
  | cons r l ih =>
    rw [encL_cons, ih (fun q hq => h q (List.mem_cons_of_mem _ hq))]
    unfold encB
    rw [if_pos (h r (List.mem_cons_self ..))]
    rfl
theorem ascii_scal {l : List Int} (h : ∀ r ∈ l, 0 ≤ r ∧ r < 128) : ∀ r ∈ l, scal r = true := fun r hr => (scal_iff r).2 (by have := h r hr; omega)
theorem ascii_enc {l : List Int} (h : ∀ r ∈ l, 0 ≤ r ∧ r < 128) : encS l = strOfNums l := by
  unfold encS
  rw [encL_ascii l (fun r hr => (h r hr).2)]
/-- an ASCII text says its bytes -/
theorem ascii_dec {l : List Int} (h : ∀ r ∈ l, 0 ≤ r ∧ r < 128) : decT (strOfNums l) = l := by
  rw [← ascii_enc h]
  exact (dec_enc l (ascii_scal h)).1
/-- a number below 128 that a text says is a byte of it -/
theorem fst_low (t : ByteArray) (ht : 0 < t.size) (h : (fstT t).rune < 128) : (fstT t).rune = bt t 0 := by
  have hs := fst_scal t ht
  by_cases hr : runT t = bgN (bt t 0)
  · have hw := enc_valT t (runT t) (whole_is ht hr) 0 (by omega) (by have := (runT_is t ht).one; omega)
    have e : (fstT t).rune = valT t (runT t) := by unfold fstT; rw [if_pos hr]
    rw [e] at h ⊢
    rw [← hw]
    unfold encB
    rw [if_pos h]
    rfl
  · have e : (fstT t).rune = 65533 := by unfold fstT; rw [if_neg hr]
    omega
theorem decT_low (s : ByteArray) (x : Int) (hx : x ∈ decT s) (h : x < 128) : ∃ i : Int, 0 ≤ i ∧ i < s.size ∧ bt s i = x := by
  unfold decT at hx
  obtain ⟨p, hp, rfl⟩ := List.mem_map.1 hx
  obtain ⟨h1, h2, h3, -⟩ := (To.all s s.size 0 (by omega) (by omega) (by omega)).mem (by omega) p hp
  refine ⟨p.1, h1, h2, ?_⟩
  have hz := tail_size s p.1 h1 (by omega)
  rw [h3] at h ⊢
  rw [fst_low _ (by omega) h, bt_tail_ _ _ _ h1 (by omega)]
  congr 1
  omega
/-! ### what is coded says what it was -/
theorem up_dig (x : Int) (h0 : 0 ≤ x) (h1 : x < 16) : Z.dig (bt Z.upT x) 16 = x := by
  have key : ∀ n : Fin 16, Z.dig (bt Z.upT (n.val : Int)) 16 = (n.val : Int) := by decide +kernel
  have := key ⟨x.toNat, by omega⟩
  rw [show ((x.toNat : Nat) : Int) = x by omega] at this
  exact this
theorem pct_back (p : Int → Bool) (L : List Int) (hL : ∀ x ∈ L, 0 ≤ x ∧ x ≤ 255) (h37 : ∀ x ∈ L, x = 37 → p x = true) : ∀ (suf pre : List Int), L = pre ++ suf → (Z.itemsF (strOfNums (Z.encL p L)) ((Z.encL p pre).length : Int)).map (Z.byteC (strOfNums (Z.encL p L))) = suf := by
  intro suf
  have hR := Z.encL_range p L hL
  have hz : (strOfNums (Z.encL p L)).size = (Z.encL p L).length := strOfNums_size _
  have hb : ∀ i : Int, 0 ≤ i → bt (strOfNums (Z.encL p L)) i = rd (Z.encL p L) i := fun i h0 => bt_strOfNums _ i h0 hR
  generalize strOfNums (Z.encL p L) = t at *
  induction suf with
  | nil =>
    intro pre hp
    rw [List.append_nil] at hp
    subst hp
    rw [← hz, Z.itemsF_end]
    rfl
  | cons x suf ih =>
    intro pre hp
    have ih := ih (pre ++ [x]) (by rw [hp]; simp)
    have hx : x ∈ L := by rw [hp]; simp
    have hx1 := hL x hx
    have he : Z.encL p L = Z.encL p pre ++ (Z.encB p x ++ Z.encL p suf) := by
      rw [hp, Z.encL_append]
      congr 1
    have hone : Z.encL p (pre ++ [x]) = Z.encL p pre ++ Z.encB p x := by
      rw [Z.encL_append]
      congr 1
      simp [Z.encL]
    rw [hone, List.length_append] at ih
    have hz2 : t.size = (Z.encL p pre).length + ((Z.encB p x).length + (Z.encL p suf).length) := by rw [hz, he, List.length_append, List.length_append]
    have hbb : ∀ i : Int, 0 ≤ i → i < (Z.encB p x).length → bt t ((Z.encL p pre).length + i) = rd (Z.encB p x) i := fun i h0 h1 => by
      rw [hb _ (by omega), he, rd_app_ge _ _ _ (by omega), rd_append_lt _ _ _ (by omega) (by omega)]
      congr 1
      omega
    have hlen := Z.encB_len p x
    generalize ((Z.encL p pre).length : Nat) = P at *
    have hgo := Z.itemsF_go (s := t) (p := (P : Int)) (by omega)
    rw [hgo, List.map_cons]
    cases hpx : p x with
    | true =>
      have hB : Z.encB p x = [37, bt Z.upT (x / 16), bt Z.upT (x % 16)] := by unfold Z.encB Z.codeL; rw [if_pos hpx]
      rw [hB] at hbb ih hz2
      have b0 := hbb 0 (by omega) (by simp)
      have b1 := hbb 1 (by omega) (by simp)
      have b2 := hbb 2 (by omega) (by simp)
      have c0 : bt t P = 37 := by rw [Int.add_zero] at b0; exact b0
      have c1 : bt t (P + 1) = bt Z.upT (x / 16) := b1
      have c2 : bt t (P + 2) = bt Z.upT (x % 16) := b2
      have d1 := up_dig (x / 16) (by omega) (by omega)
      have d2 := up_dig (x % 16) (by omega) (by omega)
      have hc : Z.isC t P = true := by
        unfold Z.isC
        rw [c0, c1, c2, d1, d2, decide_eq_true (show (P : Int) + 2 < t.size by simp at hz2; omega), decide_eq_true (show (0 : Int) ≤ x / 16 by omega), decide_eq_true (show (0 : Int) ≤ x % 16 by omega)]
        rfl
      have e1 : Z.byteC t P = x := by
        unfold Z.byteC Z.sayC
        rw [if_pos hc, c1, c2, d1, d2]
        omega
      have e2 : Z.nxtC t P = ((P + 3 : Nat) : Int) := by
        unfold Z.nxtC
        rw [if_pos hc]
        omega
      rw [e1, e2]
      congr 1
    | false =>
      have hB : Z.encB p x = [x] := by unfold Z.encB; rw [if_neg (by rw [hpx]; decide)]
      rw [hB] at hbb ih hz2
      have b0 := hbb 0 (by omega) (by simp)
      have c0 : bt t P = x := by rw [Int.add_zero] at b0; exact b0
      have hn : x ≠ 37 := fun e => by have := h37 x hx e; rw [hpx] at this; cases this
      have hc : Z.isC t P = false := by
        unfold Z.isC
        rw [c0, show (x == 37) = false from beq_eq_false_iff_ne.2 hn]
        simp
      have e1 : Z.byteC t P = x := by
        unfold Z.byteC
        rw [if_neg (by rw [hc]; decide), c0]
      have e2 : Z.nxtC t P = ((P + 1 : Nat) : Int) := by
        unfold Z.nxtC
        rw [if_neg (by rw [hc]; decide)]
        omega
      rw [e1, e2]
      congr 1
/-- what is coded, decoded, is what it was: without percent signs, or if these are coded -/
theorem dec_enc_pct (p : Int → Bool) (L : List Int) (hL : ∀ x ∈ L, 0 ≤ x ∧ x ≤ 255) (h37 : ∀ x ∈ L, x = 37 → p x = true) : Z.decS (strOfNums (Z.encL p L)) = strOfNums L := by
  unfold Z.decS Z.decL
  have := pct_back p L hL h37 L [] rfl
  rw [show ((Z.encL p []).length : Int) = 0 from rfl] at this
  rw [this]
/-! ### what Parse gives -/
theorem ctl1 (b : Int) (h0 : 0 ≤ b) (h1 : b ≤ 255) : inSet (nW 1) b = decide (b < 32 ∨ 126 < b) := by
  have key : ∀ n : Fin 256, inSet (nW 1) (n.val : Int) = decide ((n.val : Int) < 32 ∨ 126 < (n.val : Int)) := by decide +kernel
  have := key ⟨b.toNat, by omega⟩
  rw [show ((b.toNat : Nat) : Int) = b by omega] at this
  exact this
/-- bytes that Parse lets stand -/
def okP (b : Int) : Prop := 32 ≤ b ∧ b ≤ 126 ∧ inT b 9 = false
theorem up_ok (x : Int) (h0 : 0 ≤ x) (h1 : x < 16) : okP (bt Z.upT x) := by
  have key : ∀ n : Fin 16, 32 ≤ bt Z.upT (n.val : Int) ∧ bt Z.upT (n.val : Int) ≤ 126 ∧ inT (bt Z.upT (n.val : Int)) 9 = false := by decide +kernel
  have := key ⟨x.toNat, by omega⟩
  rw [show ((x.toNat : Nat) : Int) = x by omega] at this
  exact this
theorem pct_ok : okP 37 := by unfold okP; decide +kernel
theorem ctl_ok (L : List Int) (hL : ∀ x ∈ L, 0 ≤ x ∧ x ≤ 255) (hf : ∀ x ∈ L, x < 128 → inT x 9 = false) : ∀ b ∈ Z.encL (inSet (nW 1)) L, okP b := by
  intro b hb
  unfold Z.encL at hb
  rw [List.mem_flatMap] at hb
  obtain ⟨x, hx, hb⟩ := hb
  have hr := hL x hx
  unfold Z.encB Z.codeL at hb
  rw [ctl1 x hr.1 hr.2] at hb
  by_cases hc : x < 32 ∨ 126 < x
  · rw [decide_eq_true hc, if_pos rfl] at hb
    simp only [List.mem_cons, List.not_mem_nil, or_false] at hb
    rcases hb with rfl | rfl | rfl
    · exact pct_ok
    · exact up_ok _ (by omega) (by omega)
    · exact up_ok _ (by omega) (by omega)
  · rw [decide_eq_false hc, if_neg (by decide)] at hb
    simp only [List.mem_cons, List.not_mem_nil, or_false] at hb
    subst hb
    exact ⟨by omega, by omega, hf _ hx (by omega)⟩
theorem okP.ascii {b : Int} (h : okP b) : 0 ≤ b ∧ b < 128 := by have := h.1; have := h.2.1; omega
/-- a text of such bytes is parsed as it is -/
theorem ok_ctl (E : List Int) (h : ∀ b ∈ E, okP b) : Z.encL (inSet (nW 1)) E = E := by
  induction E with
  | nil => rfl
  | cons b E ih =>
    have hb := h b (List.mem_cons_self ..)
    unfold Z.encL at ih ⊢
    rw [List.flatMap_cons, ih (fun q hq => h q (List.mem_cons_of_mem _ hq))]
    unfold Z.encB
    rw [ctl1 b (by have := hb.1; omega) (by have := hb.2.1; omega), decide_eq_false (by have := hb.1; have := hb.2.1; omega), if_neg (by decide)]
    rfl
theorem ok_parse (E : List Int) (h : ∀ b ∈ E, okP b) : fstF (fun r => inT r 9) (pcs (strOfNums E) 0) = -1 ∧ ctlS (encS (decT (strOfNums E))) = strOfNums E := by
  have ha : ∀ b ∈ E, 0 ≤ b ∧ b < 128 := fun b hb => (h b hb).ascii
  have hd := ascii_dec ha
  refine ⟨fstF_none fun p hp => ?_, ?_⟩
  · have hm : p.2.rune ∈ decT (strOfNums E) := by unfold decT; exact List.mem_map.2 ⟨p, hp, rfl⟩
    rw [hd] at hm
    exact (h _ hm).2.2
  · rw [hd, ascii_enc ha]
    unfold ctlS
    rw [bytesOf_strOfNums E (fun x hx => by have := ha x hx; omega), ok_ctl E h]
/-- what Parse gives, as a list; its bytes -/
theorem clean_bytes (s : ByteArray) : bytesOf (encS (decT s)) = encL (decT s) := bytesOf_strOfNums _ (encL_range _ (decT_scal s))
theorem parse_ok (s : ByteArray) (h : fstF (fun r => inT r 9) (pcs s 0) < 0) : ∀ b ∈ Z.encL (inSet (nW 1)) (bytesOf (encS (decT s))), okP b := by
  have hall := fstF_all (fun p hp => ((To.all s s.size 0 (by omega) (by omega) (by omega)).mem (by omega) p hp).1) h
  rw [clean_bytes]
  refine ctl_ok _ (encL_range _ (decT_scal s)) fun x hx hlt => ?_
  have hm := encL_low _ (decT_scal s) x hx hlt
  unfold decT at hm
  obtain ⟨p, hp, rfl⟩ := List.mem_map.1 hm
  exact hall p hp
/-- without percent signs what Parse gives says the clean form -/
theorem parse_says (s : ByteArray) (h : ∀ i : Int, 0 ≤ i → i < s.size → bt s i ≠ 37) : Z.decS (ctlS (encS (decT s))) = encS (decT s) := by
  unfold ctlS
  rw [clean_bytes, dec_enc_pct _ _ (encL_range _ (decT_scal s)) fun x hx e => by
    subst e
    obtain ⟨i, h0, h1, e⟩ := decT_low s 37 (encL_low _ (decT_scal s) 37 hx (by omega)) (by omega)
    exact absurd e (h i h0 h1)]
  rfl
end Go.Proofs.YtebpghpaglpdlaaDoor
