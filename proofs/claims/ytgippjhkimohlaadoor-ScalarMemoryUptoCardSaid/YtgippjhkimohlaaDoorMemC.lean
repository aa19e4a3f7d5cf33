/- ScalarMemory: what is called, as the walk needs it. -/
import Derived.Test.YtgippjhkimohlaaDoorMemB
import Derived.Test.YtgippjhkimohlaaDoorFeeA
import Derived.Test.YtgippjhkimohlaaDoorQUmex1
import Derived.Test.YtgippjhkimohlaaDoorQUmex0
import Derived.Test.YtgippjhkimohlaaDoorQUmex2
set_option linter.unusedVariables false
set_option linter.unusedSimpArgs false
namespace Go.Proofs.YtgippjhkimohlaaDoor
open Go.RowKit Go.Proofs.YtgippjhkimohlaaDoorW.PrintWords Go.Proofs.YtgippjhkimohlaaDoorW.PrintLast Go.Proofs.YtgippjhkimohlaaDoorQ.Ume
theorem tail_end_eq (u : ByteArray) : tail u u.size = (⟨#[]⟩ : ByteArray) := ba_ext (by rw [tail_end]; rfl) fun i h0 h1 => by rw [tail_end] at h1; omega
theorem Feed_l0 (u : ByteArray) (hu : u.size ≤ 1000000000) : ∀ (n k : Nat) (l : List (Int × Pc)) (a : Int), SurAt u l a → (u.size : Int) - a = n → (l.length : Int) ≤ a → n < k →
    ∃ l' e', Sur u l' e' ∧ l'.length ≤ u.size ∧ scalar_Decoder_Feed.l0 k (tail u a) (l.map (·.2.rune)) (⟨#[]⟩ : ByteArray) = some (l'.map (·.2.rune), tail u e') := by
  intro n
  induction n using Nat.strongRecOn with
  | ind n ih =>
    intro k l a h hn hl hk
    obtain ⟨k, rfl⟩ : ∃ m, k = m + 1 := ⟨k - 1, by omega⟩
    have hz := tail_size u a h.pos h.le
    by_cases hlt : a < u.size
    · have hst := fst_step u a h.pos hlt
      have hf : scalar_first.f (tail u a) = some (0, (fstT (tail u a)).size, (fstT (tail u a)).rune, (fstT (tail u a)).bad, opnT (tail u a)) := by
        unfold scalar_first.f
        rw [if_pos (by omega)]
      cases ho : opnT (tail u a) with
      | true =>
        refine ⟨l, a, h.done (Or.inr ⟨hlt, ho⟩), by omega, ?_⟩
        simp only [scalar_Decoder_Feed.l0]
        rw [if_pos (by omega), hf, ho]
        simp only [Option.bind_some, if_true]
      | false =>
        obtain ⟨l', e', h1, h2, h3⟩ := ih ((u.size : Int) - (a + (fstT (tail u a)).size)).toNat (by omega) k (l ++ [(a, fstT (tail u a))]) (a + (fstT (tail u a)).size) (h.next hlt ho) (by omega) (by rw [List.length_append, List.length_singleton]; omega) (by omega)
        refine ⟨l', e', h1, h2, ?_⟩
        have htt : (tail u a).extract (fstT (tail u a)).size.toNat (tail u a).size = tail u (a + (fstT (tail u a)).size) := tail_tail u a _ h.pos (by omega) h.le
        simp only [scalar_Decoder_Feed.l0]
        rw [if_pos (by omega), hf, ho]
        simp only [Option.bind_some, Bool.false_eq_true, if_false]
        rw [if_pos (by rw [List.length_map]; omega), if_pos (by omega), if_pos (by omega), htt]
        rw [List.map_append] at h3
        exact h3
    · obtain rfl : a = u.size := by have := h.le; omega
      refine ⟨l, u.size, h.done (Or.inl rfl), by omega, ?_⟩
      simp only [scalar_Decoder_Feed.l0]
      rw [if_neg (by omega), tail_end_eq]
theorem Feed_is (h p : ByteArray) (hu : (h ++ p).size ≤ 1000000000) (k : Nat) (hk : (h ++ p).size < k) : ∃ l e, Sur (h ++ p) l e ∧ l.length ≤ (h ++ p).size ∧ scalar_Decoder_Feed.f k h p = some (l.map (·.2.rune), tail (h ++ p) e) := by
  have hz : (h ++ p).size = h.size + p.size := ByteArray.size_append
  obtain ⟨l, e, h1, h2, h3⟩ := Feed_l0 (h ++ p) hu (h ++ p).size k [] 0 (SurAt.start _) (by omega) (by simp) hk
  rw [tail_zero] at h3
  refine ⟨l, e, h1, h2, ?_⟩
  unfold scalar_Decoder_Feed.f
  rw [if_pos (by omega)]
  exact h3
theorem scal_is {r : Int} {b : Bool} (h : b = true ↔ ((0 ≤ r ∧ r < 55296) ∨ (57343 < r ∧ r ≤ 1114111))) : scal r = b := by
  cases b with
  | true => exact (scal_iff r).2 (h.1 rfl)
  | false =>
    cases hs : scal r with
    | false => rfl
    | true => exact absurd (h.2 ((scal_iff r).1 hs)) (by simp)
theorem Scalar_is (r : Int) (k : Nat) (hk : 0 < k) : scalar_Scalar.f k r = some (scal r) := by
  obtain ⟨k, rfl⟩ : ∃ m, k = m + 1 := ⟨k - 1, by omega⟩
  unfold scalar_Scalar.f utf8_ValidRune.f
  by_cases h0 : 0 ≤ r
  · rw [if_pos h0]
    by_cases h1 : r < 55296
    · rw [scal_is (b := true) (by simp; omega)]
      simp [utf8_ValidRune.j0, h1]
    · by_cases h2 : 57343 < r
      · by_cases h3 : r ≤ 1114111
        · rw [scal_is (b := true) (by simp; omega)]
          simp [utf8_ValidRune.j0, h1, h2, h3]
        · rw [scal_is (b := false) (by simp; omega)]
          simp [utf8_ValidRune.j0, h1, h2, h3]
      · rw [scal_is (b := false) (by simp; omega)]
        simp [utf8_ValidRune.j0, h1, h2]
  · rw [if_neg h0, scal_is (b := false) (by simp; omega)]
    have h2 : ¬ 57343 < r := by omega
    simp [utf8_ValidRune.j0, h2]
/-- m is the place of the first number that is no scalar value, or the list's length -/
structure StopAt (l : List Int) (m : Nat) : Prop where
  le : m ≤ l.length
  ok : ∀ r ∈ l.take m, scal r = true
  stop : m < l.length → scal (rd l m) = false
theorem StopAt.at_ {l : List Int} {m : Nat} (h : StopAt l m) (i : Nat) (hi : i < m) : scal (rd l i) = true := by
  have := h.le
  refine h.ok _ ?_
  have e : rd l i = (l.take m)[i]'(by rw [List.length_take]; omega) := by simp [rd, List.getD_eq_getElem?_getD, List.getElem?_eq_getElem (show i < l.length by omega)]
  rw [e]
  exact List.getElem_mem _
theorem StopAt.full {l : List Int} (h : ∀ r ∈ l, scal r = true) : StopAt l l.length := ⟨Nat.le_refl _, fun r hr => h r (by rw [List.take_length] at hr; exact hr), fun h => by omega⟩
theorem u16_in (x : Int) (h : 0 ≤ x ∧ x ≤ 65535) : IntKind.u16.wrap x = x := by
  simp [IntKind.wrap, IntKind.bits, IntKind.signed]
  omega
theorem and1023 (x : Int) (h0 : 0 ≤ x) (h1 : x < 2147483648) : Go.bits .and .i32 x 1023 = x % 1024 := bits_mask .i32 31 (by decide) wraps_i32 10 (by decide) x h0 h1
theorem untL_take_len (l : List Int) (i : Nat) : (untL (l.take i)).length ≤ 2 * i := by
  have := untL_len (l.take i)
  have := List.length_take_le i l
  omega
/-- what Units tells, by the place of the first number that is no scalar value -/
def untA (l : List Int) (m : Nat) : List Int × Int × Int := if m = l.length then (untL l, 0, 0) else ([], (m : Int), 20)
theorem Units_l0 (l : List Int) (m : Nat) (hm : StopAt l m) (hl : l.length ≤ 9000000000000) : ∀ (n k i : Nat), m - i = n → i ≤ m → n + 2 < k → scalar_Units.l0 k (untL (l.take i)) l (l.length : Int) (i : Int) = some (untA l m) := by
  intro n
  have hle := hm.le
  induction n with
  | zero =>
    intro k i h1 h2 hk
    obtain ⟨k, rfl⟩ : ∃ m, k = m + 1 := ⟨k - 1, by omega⟩
    obtain rfl : i = m := by omega
    simp only [scalar_Units.l0]
    unfold untA
    by_cases he : i = l.length
    · rw [if_neg (by omega), if_pos he, he, List.take_length]
    · have hs := hm.stop (by omega)
      rw [if_pos (by omega), if_pos (by omega), if_pos (by omega), Scalar_is _ k (by omega), hs, if_neg he]
      rfl
  | succ n ih =>
    intro k i h1 h2 hk
    obtain ⟨k, rfl⟩ : ∃ m, k = m + 1 := ⟨k - 1, by omega⟩
    have hs := hm.at_ i (by omega)
    have ht := take_rd l i (by omega)
    have hlen := untL_take_len l i
    have ih := ih k (i + 1) (by omega) (by omega) (by omega)
    rw [ht, untL_app, untL_one] at ih
    simp only [scalar_Units.l0]
    rw [if_pos (by omega), if_pos (by omega), if_pos (by omega), Scalar_is _ k (by omega), hs]
    have hr := (scal_iff _).1 hs
    generalize rd l (i : Int) = r at *
    simp only [Option.bind_some, if_true]
    rw [show wrap64 ((i : Int) + 1) = ((i + 1 : Nat) : Int) by unfold wrap64; omega]
    unfold untB at ih
    by_cases hp : r < 65536
    · rw [if_pos hp] at ih ⊢
      rw [if_pos (by omega), u16_in r (by omega)]
      exact ih
    · rw [if_neg hp] at ih ⊢
      rw [show wrap32 (r - 65536) = r - 65536 by unfold wrap32; omega, and1023 _ (by omega) (by omega), show wrap32 (55296 + (r - 65536) / 1024) = 55296 + (r - 65536) / 1024 by unfold wrap32; omega, show wrap32 (56320 + (r - 65536) % 1024) = 56320 + (r - 65536) % 1024 by unfold wrap32; omega, u16_in _ (by omega), u16_in _ (by omega), if_pos (by simp only [List.length_cons, List.length_nil]; omega)]
      exact ih
theorem Units_is (l : List Int) (m : Nat) (hm : StopAt l m) (hl : l.length ≤ 9000000000000) (k : Nat) (hk : l.length + 2 < k) : scalar_Units.f k l = some (untA l m) := by
  unfold scalar_Units.f
  exact Units_l0 l m hm hl m k 0 (by omega) (by omega) (by have := hm.le; omega)
theorem same_l0 (l : List Int) (hl : l.length ≤ 9000000000000) : ∀ (n k i : Nat), l.length - i = n → i ≤ l.length → n < k → posternlaw02_same.l0 k l l (l.length : Int) (i : Int) = some true := by
  intro n
  induction n with
  | zero =>
    intro k i h1 h2 hk
    obtain ⟨k, rfl⟩ : ∃ m, k = m + 1 := ⟨k - 1, by omega⟩
    simp only [posternlaw02_same.l0]
    rw [if_neg (by omega)]
  | succ n ih =>
    intro k i h1 h2 hk
    obtain ⟨k, rfl⟩ : ∃ m, k = m + 1 := ⟨k - 1, by omega⟩
    simp only [posternlaw02_same.l0]
    rw [if_pos (by omega), if_pos (by omega), if_pos (by omega), if_pos (by omega), if_pos trivial, show wrap64 ((i : Int) + 1) = ((i + 1 : Nat) : Int) by unfold wrap64; omega]
    exact ih k (i + 1) (by omega) (by omega) (by omega)
theorem same_is (l : List Int) (hl : l.length ≤ 9000000000000) (k : Nat) (hk : l.length < k) : posternlaw02_same.f k l l = some true := by
  unfold posternlaw02_same.f
  rw [if_pos rfl]
  exact same_l0 l hl l.length k 0 (by omega) (by omega) hk
theorem rd_range {l : List Int} {b : Int} (h : ∀ x ∈ l, 0 ≤ x ∧ x ≤ b) (hb : 0 ≤ b) (i : Int) : 0 ≤ rd l i ∧ rd l i ≤ b := by
  unfold rd
  rw [List.getD_eq_getElem?_getD]
  cases e : l[i.toNat]? with
  | none => exact ⟨Int.le_refl 0, hb⟩
  | some x => exact h x (List.mem_of_getElem? e)
theorem FromUnits_l0 (l : List Int) (hr : ∀ x ∈ l, 0 ≤ x ∧ x ≤ 65535) (hl : l.length ≤ 9000000000000) : ∀ (n k i : Nat) (acc : List Int), l.length - i = n → i ≤ l.length → acc.length ≤ i → 2 * n < k → scalar_FromUnits.l0 k l acc (i : Int) = some (acc ++ frmU (l.drop i)) := by
  intro n
  induction n using Nat.strongRecOn with
  | ind n ih =>
    intro k i acc h1 h2 h3 hk
    obtain ⟨k, rfl⟩ : ∃ m, k = m + 1 := ⟨k - 1, by omega⟩
    simp only [scalar_FromUnits.l0]
    by_cases hlt : i < l.length
    · obtain ⟨k, rfl⟩ : ∃ m, k = m + 1 := ⟨k - 1, by omega⟩
      have hx := rd_range hr (by decide) (i : Int)
      have hy := rd_range hr (by decide) ((i : Int) + 1)
      have e1 : wrap32 (rd l i) = rd l i := by unfold wrap32; omega
      have e2 : wrap64 ((i : Int) + 1) = (i : Int) + 1 := by unfold wrap64; omega
      have e2' : ((i : Int) + 1) = ((i + 1 : Nat) : Int) := by omega
      have e3 : wrap32 (rd l ((i : Int) + 1)) = rd l ((i : Int) + 1) := by unfold wrap32; omega
      have step : ∀ x, scalar_FromUnits.l0 k l (acc ++ [x]) ((i : Int) + 1) = some (acc ++ (x :: frmU (l.drop (i + 1)))) := fun x => by
        rw [e2', ih (n - 1) (by omega) k (i + 1) (acc ++ [x]) (by omega) (by omega) (by rw [List.length_append, List.length_singleton]; omega) (by omega)]
        simp
      rw [if_pos (by omega), if_pos (by omega), e1]
      by_cases hp : rd l i < 55296 ∨ 57343 < rd l i
      · have hb : (if rd l i < 55296 then scalar_FromUnits.j1 (k + 1) l acc (i : Int) (rd l i) true else scalar_FromUnits.j1 (k + 1) l acc (i : Int) (rd l i) (decide (rd l i > 57343))) = scalar_FromUnits.j1 (k + 1) l acc (i : Int) (rd l i) true := by
          split
          · rfl
          · rw [decide_eq_true (by omega)]
        rw [hb]
        simp only [scalar_FromUnits.j1, if_true]
        rw [if_pos (by omega), e2, step, frm_plain l i hlt hp]
      · have hb : (if rd l i < 55296 then scalar_FromUnits.j1 (k + 1) l acc (i : Int) (rd l i) true else scalar_FromUnits.j1 (k + 1) l acc (i : Int) (rd l i) (decide (rd l i > 57343))) = scalar_FromUnits.j1 (k + 1) l acc (i : Int) (rd l i) false := by
          rw [if_neg (by omega), decide_eq_false (by omega)]
        rw [hb]
        simp only [scalar_FromUnits.j1, Bool.false_eq_true, if_false, e2, e3]
        by_cases hq : rd l i < 56320
        · rw [if_pos hq]
          by_cases h4 : i + 1 < l.length
          · rw [if_pos (by omega), if_pos (by omega)]
            by_cases h5 : rd l ((i : Int) + 1) ≥ 56320
            · rw [if_pos h5]
              by_cases h6 : rd l ((i : Int) + 1) ≤ 57343
              · rw [if_pos h6, if_pos (by omega), show wrap32 (rd l i - 55296) = rd l i - 55296 by unfold wrap32; omega, show wrap32 ((rd l i - 55296) * 1024) = (rd l i - 55296) * 1024 by unfold wrap32; omega, show wrap32 (65536 + (rd l i - 55296) * 1024) = 65536 + (rd l i - 55296) * 1024 by unfold wrap32; omega, show wrap32 (65536 + (rd l i - 55296) * 1024 + rd l ((i : Int) + 1)) = 65536 + (rd l i - 55296) * 1024 + rd l ((i : Int) + 1) by unfold wrap32; omega, show wrap32 (65536 + (rd l i - 55296) * 1024 + rd l ((i : Int) + 1) - 56320) = 65536 + 1024 * (rd l i - 55296) + rd l ((i : Int) + 1) - 56320 by unfold wrap32; omega, show wrap64 ((i : Int) + 1 + 1) = ((i + 2 : Nat) : Int) by unfold wrap64; omega, ih (n - 2) (by omega) k (i + 2) _ (by omega) (by omega) (by rw [List.length_append, List.length_singleton]; omega) (by omega), frm_pair l i h4 (by omega) (by omega)]
                simp
              · rw [if_neg h6, if_pos (by omega), step, frm_lone l i hlt (by omega) (by omega)]
            · rw [if_neg h5, if_pos (by omega), step, frm_lone l i hlt (by omega) (by omega)]
          · rw [if_neg (by omega), if_pos (by omega), step, frm_lone l i hlt (by omega) (by omega)]
        · rw [if_neg hq, if_pos (by omega), step, frm_lone l i hlt (by omega) (by omega)]
    · obtain rfl : i = l.length := by omega
      rw [if_neg (by omega), List.drop_length]
      simp [frmU]
theorem FromUnits_is (l : List Int) (hr : ∀ x ∈ l, 0 ≤ x ∧ x ≤ 65535) (hl : l.length ≤ 9000000000000) (k : Nat) (hk : 2 * l.length < k) : scalar_FromUnits.f k l = some (frmU l) := by
  unfold scalar_FromUnits.f
  have := FromUnits_l0 l hr hl l.length k 0 [] (by omega) (by omega) (by simp) hk
  simpa using this
theorem decT_len2 (s : ByteArray) : (decT s).length ≤ s.size := by unfold decT; rw [List.length_map]; exact pcs_len s s.size 0 (by omega) (by omega)
theorem Units_all (l : List Int) (h : ∀ r ∈ l, scal r = true) (hl : l.length ≤ 9000000000000) : scalar_Units.f 9000000000003 l = some (untL l, 0, 0) := by
  rw [Units_is l l.length (StopAt.full h) hl _ (by omega)]
  unfold untA
  rw [if_pos rfl]
theorem own_blk {w w' : World} {base n size : Nat} {e : TypeId} {v : Value} {xs : List Value} (h : w.ownsRow base e size v n xs) (hb : ∀ g, v.ownBlock = some g → w'.heap[g]? = w.heap[g]?) : w'.ownsRow base e size v n xs := by
  refine ⟨h.1, ?_⟩
  rcases h.2 with hn | ⟨g, cap, cur, hv, hg, hh, rest⟩
  · exact .inl hn
  · refine .inr ⟨g, cap, cur, hv, hg, ?_, rest⟩
    rw [hb g (by rw [hv]; rfl)]
    exact hh
/-- a row that a call has made -/
structure Made (w : World) (lo hi : Nat) (A : Option Addr) (c : Nat) (l : List Int) : Prop where
  own : w.ownsRow lo 21 1 (.slice A l.length c) l.length (nums .i32 l)
  form : A = none ∨ ∃ g, A = some ⟨g, 0, none⟩ ∧ lo ≤ g ∧ g < hi
  cap : l.length ≤ c
theorem made_of {w : World} {lo : Nat} {A : Option Addr} {c : Nat} {l : List Int} (h : w.ownsRow lo 21 1 (.slice A l.length c) l.length (nums .i32 l)) : Made w lo w.heap.size A c l := by
  refine ⟨h, ?_, own_le h⟩
  rcases h.2 with ⟨hv, _⟩ | ⟨g, cap, cur, hv, hg, hh, _⟩
  · injection hv with e
    exact Or.inl e
  · injection hv with e
    exact Or.inr ⟨g, e, hg, (Array.getElem?_eq_some_iff.1 hh).1⟩
theorem Made.below {w w' : World} {lo hi : Nat} {A : Option Addr} {c : Nat} {l : List Int} (h : Made w lo hi A c l) (hb : Below w.heap.size w w') : Made w' lo hi A c l := ⟨pw_own_below h.own hb, h.form, h.cap⟩
theorem Made.keep {w w' : World} {lo hi g : Nat} {A : Option Addr} {c : Nat} {l : List Int} (h : Made w lo hi A c l) (hk : KeepBut w w' g none) (hg : g < lo ∨ hi ≤ g) : Made w' lo hi A c l := by
  refine ⟨own_blk h.own fun g2 e => ?_, h.form, h.cap⟩
  rcases h.form with f | ⟨g3, f, h1, h2⟩
  · rw [f] at e; cases e
  · rw [f] at e
    simp only [Value.ownBlock, Option.some.injEq] at e
    subst e
    exact hk.2 g3 (h.own.lt g3 (by rw [f]; rfl)).2 (by omega) (by simp)
theorem Made.reads {w : World} {lo hi : Nat} {A : Option Addr} {c : Nat} {l : List Int} (h : Made w lo hi A c l) : ReadsInt w .i32 A l.length l := by
  obtain ⟨A2, c2, e2, h2⟩ := own_reads h.own
  injection e2 with e3 e4 e5
  subst e3
  exact h2
theorem made_R {w w' : World} {v : Value} {l : List Int} {ok : Nat → Prop} (h : Kd.R (Kd.int .i32) 21 w' w.heap.size ok v l) : ∃ A c, v = .slice A l.length c ∧ Made w' w.heap.size w'.heap.size A c l := by
  obtain ⟨A, c, rfl⟩ := Kd.R_slice h
  exact ⟨A, c, rfl, made_of (Kd.own_of_R h)⟩
theorem mDec (s : ByteArray) (w : World) (hs : s.size ≤ 1048576) (T : Tabs w) : Calls Tryd.prog 19 #[.string s] w fun e w' => ∃ A c, e = .returned (.slice A (decT s).length c) ∧ Made w' w.heap.size w'.heap.size A c (decT s) ∧ Below w.heap.size w w' := by
  refine (Decode_any s w (by omega) T).mono ?_
  rintro e w' ⟨hb, v, rfl, ho⟩
  obtain ⟨A, c, rfl⟩ := own_slice ho
  exact ⟨A, c, rfl, made_of ho, hb⟩
theorem mRDec (s : ByteArray) (w : World) (hs : s.size ≤ 1048576) : Calls Tryd.prog 20 #[.string s] w fun e w' => ∃ A c, e = .returned (.slice A (decT s).length c) ∧ Made w' w.heap.size w'.heap.size A c (decT s) ∧ Below w.heap.size w w' := by
  refine (RDecode_any s w (by omega)).mono ?_
  rintro e w' ⟨hb, v, rfl, ho⟩
  obtain ⟨A, c, rfl⟩ := own_slice ho
  exact ⟨A, c, rfl, made_of ho, hb⟩
theorem mSame (l : List Int) (A A2 : Option Addr) (c c2 : Nat) (w : World) (hl : l.length ≤ 16777216) (hc : l.length ≤ c) (hc2 : l.length ≤ c2) (R : ReadsInt w .i32 A l.length l) (R2 : ReadsInt w .i32 A2 l.length l) : Calls Tryd.prog 18 #[.slice A l.length c, .slice A2 l.length c2] w fun e w' => e = .returned (.bool true) ∧ Below w.heap.size w w' := by
  refine (posternlaw02_same.calls 9000000000003 A c l A2 c2 l true w (C_of_ints R) hc (C_of_ints R2) hc2 (same_is l (by omega) _ (by omega))).mono ?_
  rintro e w' ⟨rfl, hd⟩
  exact ⟨rfl, hd.below⟩
theorem five_ok {w : World} {gd gl H : Nat} {A0 A1 A2 A3 A4 : Option Addr} {c0 c1 c2 c3 c4 b0 b1 b2 b3 b4 e0 e1 e2 e3 e4 : Nat} {l0 l1 l2 l3 l4 : List Int}
    (m0 : Made w b0 e0 A0 c0 l0) (m1 : Made w b1 e1 A1 c1 l1) (m2 : Made w b2 e2 A2 c2 l2) (m3 : Made w b3 e3 A3 c3 l3) (m4 : Made w b4 e4 A4 c4 l4)
    (h0 : l0.length ≤ 16777216) (h1 : l1.length ≤ 16777216) (h2 : l2.length ≤ 16777216) (h3 : l3.length ≤ 16777216) (h4 : l4.length ≤ 16777216)
    (o : e4 ≤ gd ∧ gd < b0 ∧ e0 ≤ b1 ∧ e1 ≤ b2 ∧ e2 ≤ b3 ∧ e3 ≤ gl ∧ gl < H ∧ b0 ≤ e0 ∧ b1 ≤ e1 ∧ b2 ≤ e2 ∧ b3 ≤ e3) :
    (Five.mk (fun i => if i = 0 then A0 else if i = 1 then A1 else if i = 2 then A2 else if i = 3 then A3 else A4) (fun i => if i = 0 then l0.length else if i = 1 then l1.length else if i = 2 then l2.length else if i = 3 then l3.length else l4.length) (fun i => if i = 0 then c0 else if i = 1 then c1 else if i = 2 then c2 else if i = 3 then c3 else c4)).Ok gd gl H := by
  have key : ∀ i, i < 5 → (i = 0 ∨ i = 1 ∨ i = 2 ∨ i = 3 ∨ i = 4) := fun i h => by omega
  refine ⟨fun i hi => ?_, fun i j g hi hj hne ha hb => ?_, fun i hi => ?_, by omega, by omega⟩
  · rcases key i hi with rfl | rfl | rfl | rfl | rfl
    · exact m0.form.imp id fun ⟨g, a, b, c⟩ => ⟨g, a, by omega, by omega, by omega⟩
    · exact m1.form.imp id fun ⟨g, a, b, c⟩ => ⟨g, a, by omega, by omega, by omega⟩
    · exact m2.form.imp id fun ⟨g, a, b, c⟩ => ⟨g, a, by omega, by omega, by omega⟩
    · exact m3.form.imp id fun ⟨g, a, b, c⟩ => ⟨g, a, by omega, by omega, by omega⟩
    · exact m4.form.imp id fun ⟨g, a, b, c⟩ => ⟨g, a, by omega, by omega, by omega⟩
  · have r : ∀ i, i < 5 → ∀ g, (if i = 0 then A0 else if i = 1 then A1 else if i = 2 then A2 else if i = 3 then A3 else A4) = some ⟨g, 0, none⟩ → (i = 0 ∧ b0 ≤ g ∧ g < e0) ∨ (i = 1 ∧ b1 ≤ g ∧ g < e1) ∨ (i = 2 ∧ b2 ≤ g ∧ g < e2) ∨ (i = 3 ∧ b3 ≤ g ∧ g < e3) ∨ (i = 4 ∧ b4 ≤ g ∧ g < e4) := by
      have u : ∀ {A : Option Addr} {lo hi g : Nat}, (A = none ∨ ∃ g, A = some ⟨g, 0, none⟩ ∧ lo ≤ g ∧ g < hi) → A = some ⟨g, 0, none⟩ → lo ≤ g ∧ g < hi := by
        intro A lo hi g f e
        rcases f with f | ⟨g2, f, a, b⟩
        · rw [f] at e; cases e
        · rw [f] at e; injection e with e; injection e with e; subst e; exact ⟨a, b⟩
      intro i hi g e
      rcases key i hi with rfl | rfl | rfl | rfl | rfl
      · exact Or.inl ⟨rfl, u m0.form e⟩
      · exact Or.inr (Or.inl ⟨rfl, u m1.form e⟩)
      · exact Or.inr (Or.inr (Or.inl ⟨rfl, u m2.form e⟩))
      · exact Or.inr (Or.inr (Or.inr (Or.inl ⟨rfl, u m3.form e⟩)))
      · exact Or.inr (Or.inr (Or.inr (Or.inr ⟨rfl, u m4.form e⟩)))
    have r1 := r i hi g ha
    have r2 := r j hj g hb
    omega
  · rcases key i hi with rfl | rfl | rfl | rfl | rfl
    · exact h0
    · exact h1
    · exact h2
    · exact h3
    · exact h4
end Go.Proofs.YtgippjhkimohlaaDoor
