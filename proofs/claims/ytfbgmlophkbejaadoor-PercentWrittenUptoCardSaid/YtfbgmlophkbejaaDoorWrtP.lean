/- Fields written are read back. Plain. -/
import Derived.Test.YtfbgmlophkbejaaDoorFrmD
import Derived.Test.YtfbgmlophkbejaaDoorFndC
import Derived.Test.YtfbgmlophkbejaaDoorQPfax6
import Derived.Test.YtfbgmlophkbejaaDoorQPfax1
set_option linter.unusedVariables false
set_option linter.unusedSimpArgs false
namespace Go.Proofs.YtfbgmlophkbejaaDoor
open Go.RowKit Go.Proofs.YtfbgmlophkbejaaDoorW.PrintWords Go.Proofs.YtfbgmlophkbejaaDoorW.PrintLast Go.Proofs.YtfbgmlophkbejaaDoorQ.Pfa
namespace FC
theorem formB_no : ∀ b : Int, 0 ≤ b → b ≤ 255 → ∀ x ∈ formB b, x ≠ 38 ∧ x ≠ 61 := fin_all (by decide +kernel)
theorem formS_no (s : ByteArray) (c : UInt8) (hc : c = 38 ∨ c = 61) : c ∉ (formS s).data.toList := fun hm => by
  have hb : bytesOf (formS s) = (bytesOf s).flatMap formB := bytesOf_strOfNums _ (formL_range s)
  have h1 : ((c.toNat : Nat) : Int) ∈ bytesOf (formS s) := by
    unfold bytesOf
    exact List.mem_map.2 ⟨c, by first | exact hm | simpa using hm, rfl⟩
  rw [hb] at h1
  obtain ⟨b, hb1, hb2⟩ := List.mem_flatMap.1 h1
  have hr : 0 ≤ b ∧ b ≤ 255 := by
    unfold bytesOf at hb1
    obtain ⟨u, _, rfl⟩ := List.mem_map.1 hb1
    have := u.toNat_lt
    omega
  have h3 := formB_no b hr.1 hr.2 _ hb2
  rcases hc with rfl | rfl
  · exact h3.1 rfl
  · exact h3.2 rfl
theorem wrt_data (p : ByteArray × ByteArray) : (wrtP p).data.toList = (formS p.1).data.toList ++ 61 :: (formS p.2).data.toList := by
  unfold wrtP
  have h : formS p.1 ++ (⟨#[61]⟩ : ByteArray) ++ formS p.2 = ba ((formS p.1).data.toList ++ [61] ++ (formS p.2).data.toList) := by
    rw [← ba_app, ← ba_app, data_ba, data_ba]
    rfl
  rw [h, ba_data]
  simp
/-- is a text UTF-8? -/
def Cln (x : ByteArray) : Prop := encS (decT x) = x
theorem field_wrt (p : ByteArray × ByteArray) (h1 : Cln p.1) (h2 : Cln p.2) : fieldB (wrtP p) = p := by
  unfold fieldB
  rw [wrt_data, cut_hit 61 _ _ (formS_no p.1 61 (Or.inr rfl)), data_ba, data_ba]
  unfold rdF
  rw [form_decodes, form_decodes, h1, h2]
theorem wrt_no (p : ByteArray × ByteArray) : (38 : UInt8) ∉ (wrtP p).data.toList := by
  rw [wrt_data]
  intro h
  rcases List.mem_append.1 h with h | h
  · exact formS_no p.1 38 (Or.inl rfl) h
  · rcases List.mem_cons.1 h with h | h
    · cases h
    · exact formS_no p.2 38 (Or.inl rfl) h
theorem join_two (x y : ByteArray) (r : List ByteArray) : (joinS (x :: y :: r) ⟨#[38]⟩).data.toList = x.data.toList ++ 38 :: (joinS (y :: r) ⟨#[38]⟩).data.toList := by
  rw [joinS_cons, joinS_cons, ba_data, ba_data, List.map_cons]
  have e : Lib.joinTail (⟨#[38]⟩ : ByteArray).data.toList (y.data.toList :: r.map (·.data.toList)) = (38 :: y.data.toList) ++ Lib.joinTail (⟨#[38]⟩ : ByteArray).data.toList (r.map (·.data.toList)) := by
    unfold Lib.joinTail
    rw [List.map_cons, List.flatten_cons]
    rfl
  rw [e]
  rfl
theorem spl_join : ∀ (l : List (ByteArray × ByteArray)) (p : ByteArray × ByteArray), spl 38 (writtenB (p :: l)).data.toList = (p :: l).map fun q => (wrtP q).data.toList := by
  intro l
  induction l with
  | nil =>
    intro p
    show spl 38 (joinS [wrtP p] _).data.toList = _
    rw [joinS_one, spl_none 38 _ (wrt_no p)]
    rfl
  | cons q r ih =>
    intro p
    show spl 38 (joinS (wrtP p :: wrtP q :: r.map wrtP) _).data.toList = _
    rw [join_two, spl_hit 38 _ _ (wrt_no p)]
    have := ih q
    rw [List.map_cons]
    congr 1
theorem wrt_fields (l : List (ByteArray × ByteArray)) (h : ∀ p ∈ l, Cln p.1 ∧ Cln p.2) : gB (l.map fun q => (wrtP q).data.toList) = l := by
  induction l with
  | nil => rfl
  | cons p r ih =>
    rw [List.map_cons, gB_cons, ih (fun q hq => h q (List.mem_cons_of_mem _ hq)), if_pos (by rw [wrt_data, List.length_append, List.length_cons]; omega), data_ba, field_wrt p (h p List.mem_cons_self).1 (h p List.mem_cons_self).2]
    rfl
theorem written_back (l : List (ByteArray × ByteArray)) (h : ∀ p ∈ l, Cln p.1 ∧ Cln p.2) : fieldsB (writtenB l) = l := by
  cases l with
  | nil => show gB (spl 38 []) = []; rw [show spl 38 ([] : List UInt8) = [[]] from rfl, gB_cons]; simp [gB]
  | cons p r =>
    show gB (spl 38 (writtenB (p :: r)).data.toList) = _
    rw [spl_join, wrt_fields _ h]
theorem clean_is (x : ByteArray) (hx : x.size ≤ 1073741824) : ∃ b, posternlaw03_clean.f 2147483648 x = some b ∧ (b = true ↔ Cln x) := by
  have hl := decT_len4 x
  unfold posternlaw03_clean.f posternref02_Decode.f
  rw [if_pos (by omega), Option.bind_some, REncode_is (decT x) _ (StopAt.full (decT_scal x)) (by omega) _ (by omega)]
  unfold encA
  rw [if_pos rfl, Option.bind_some]
  refine ⟨_, rfl, ?_⟩
  unfold Cln
  constructor
  · intro h
    have h := beq_iff_eq.1 h
    rw [ByteArray.toList_eq, ByteArray.toList_eq] at h
    exact ByteArray.ext (Array.toList_inj.1 h)
  · intro h
    rw [show (encS (decT x)) = x from h]
    exact beq_self_eq_true _
theorem get_set (name value : ByteArray) (l : List S46) : getF name (setF name value l) = (value, true) := by
  have hn : isN name ⟨name, value⟩ = true := decide_eq_true rfl
  unfold setF
  cases hf : l.findIdx? (isN name) with
  | none =>
    have h := List.findIdx?_eq_none_iff.1 hf
    unfold getF
    rw [List.find?_append, List.find?_eq_none.2 (fun x hx => by rw [h x hx]; simp), Option.none_or, List.find?_cons_of_pos hn]
  | some k =>
    obtain ⟨hk, h1, h2⟩ := List.findIdx?_eq_some_iff_getElem.1 hf
    unfold getF
    simp only []
    rw [List.append_assoc, List.find?_append, List.find?_eq_none.2 (fun x hx => by
      obtain ⟨j, hj, rfl⟩ := List.mem_iff_getElem.1 hx
      rw [List.length_take] at hj
      rw [List.getElem_take]
      have := h2 j (by omega)
      simpa using this), Option.none_or, List.singleton_append, List.find?_cons_of_pos hn]
theorem get_without (name : ByteArray) (l : List S46) : getF name (l.filter fun x => !isN name x) = (⟨#[]⟩, false) := by
  unfold getF
  rw [List.find?_eq_none.2 (fun x hx => by
    have := (List.mem_filter.1 hx).2
    simpa using this)]
theorem setF_len (name value : ByteArray) (l : List S46) : (setF name value l).length ≤ l.length + 1 := by
  unfold setF
  cases hf : l.findIdx? (isN name) with
  | none => simp
  | some k =>
    obtain ⟨hk, h1, h2⟩ := List.findIdx?_eq_some_iff_getElem.1 hf
    have := List.length_filter_le (fun x => !isN name x) (l.drop (k + 1))
    simp only [List.length_append, List.length_take, List.length_singleton]
    rw [List.length_drop] at this
    omega
end FC
end Go.Proofs.YtfbgmlophkbejaaDoor
