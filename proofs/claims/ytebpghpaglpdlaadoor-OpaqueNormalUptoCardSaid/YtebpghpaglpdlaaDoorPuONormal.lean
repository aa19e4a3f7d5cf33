/- OpaqueNormal: what is left when the program is gone; the walk. -/
import Derived.Test.YtebpghpaglpdlaaDoorOpqI
import Derived.Test.YtebpghpaglpdlaaDoorQOpnx1
import Derived.Test.YtebpghpaglpdlaaDoorQOpnx0
set_option linter.unusedVariables false
set_option linter.unusedSimpArgs false
namespace Go.Proofs.YtebpghpaglpdlaaDoor
open Go.RowKit Go.Proofs.YtebpghpaglpdlaaDoorW.PrintWords Go.Proofs.YtebpghpaglpdlaaDoorW.PrintMore Go.Proofs.YtebpghpaglpdlaaDoorQ.Opn
theorem decT_len (s : ByteArray) : (decT s).length ≤ s.size := by
  unfold decT
  rw [List.length_map]
  exact pcs_len s s.size 0 (by omega) (by omega)
theorem encS_len (l : List Int) : (encS l).size ≤ 4 * l.length := by rw [encS_size]; exact encL_len l
/-- what Parse tells -/
def parT (s : ByteArray) : ByteArray × Int × Int := if 0 ≤ fstF (fun r => inT r 9) (pcs s 0) then (⟨#[]⟩, fstF (fun r => inT r 9) (pcs s 0), 220) else (ctlS (encS (decT s)), 0, 0)
theorem Parse_is (s : ByteArray) (hs : s.size ≤ 16777216) : opaque_Parse.f s = some (parT s) := by
  unfold opaque_Parse.f parT
  rw [if_pos hs]
  split <;> rfl
theorem awakeB_is : posternlaw22_awake.f = some true := by
  have e1 : parT (⟨#[195, 164, 37, 122, 122]⟩ : ByteArray) = (⟨#[37, 67, 51, 37, 65, 52, 37, 122, 122]⟩, 0, 0) := by decide +kernel
  have e2 : parT (⟨#[97, 32, 98]⟩ : ByteArray) = (⟨#[]⟩, 1, 220) := by decide +kernel
  unfold posternlaw22_awake.f
  rw [Parse_is _ (by decide), Parse_is _ (by decide), e1, e2]
  decide +kernel
/-- what Normal tells -/
def norT (s : ByteArray) : ByteArray × Int × Int := if 0 ≤ fstF (fun r => inT r 9) (pcs s 0) then (⟨#[]⟩, fstF (fun r => inT r 9) (pcs s 0), 220) else (norS (ctlS (encS (decT s))), 0, 0)
theorem Normal_is (s : ByteArray) (hs : s.size ≤ 16777216) : opaque_Normal.f s = some (norT s) := by
  unfold opaque_Normal.f norT
  rw [if_pos hs]
  split <;> rfl
theorem Escape_is (s : ByteArray) (hs : s.size ≤ 16777216) : opaque_Escape.f s = some (escS s) := by
  unfold opaque_Escape.f
  rw [if_pos hs]
theorem clean_len (s : ByteArray) : (encS (decT s)).size ≤ 4 * s.size := by
  have h1 := decT_len s
  have h2 := encS_len (decT s)
  omega
theorem ctl_len (s : ByteArray) : (ctlS (encS (decT s))).size ≤ 12 * s.size := by
  have h1 := clean_len s
  have h3 := Z.encL_len (inSet (nW 1)) (bytesOf (encS (decT s)))
  rw [bytesOf_length] at h3
  unfold ctlS
  rw [strOfNums_size]
  omega
theorem norS_len (s : ByteArray) : (norS (ctlS (encS (decT s)))).size ≤ 12 * s.size := by
  have h1 := clean_len s
  have h3 := nor_len (inSet (nW 1)) (bytesOf (encS (decT s))) (fun x hx => mem_bytesOf hx)
  rw [bytesOf_length] at h3
  unfold norS ctlS
  rw [strOfNums_size]
  omega
theorem OAllh_is (s : ByteArray) (hs : s.size ≤ 16777216) : opaque_All.f s false = some (allF (fun r => inT r 9) (pcs s 0)) := by
  unfold opaque_All.f
  rw [if_pos hs, if_neg (by decide)]
theorem own_norT (E : List Int) (h : ∀ b ∈ E, okP b) : norT (strOfNums E) = (norS (strOfNums E), 0, 0) := by
  have hp := ok_parse E h
  unfold norT
  rw [hp.1, hp.2, if_neg (by decide)]
theorem own_parT (E : List Int) (h : ∀ b ∈ E, okP b) : parT (strOfNums E) = (strOfNums E, 0, 0) := by
  have hp := ok_parse E h
  unfold parT
  rw [hp.1, hp.2, if_neg (by decide)]
theorem ONormal_j2 (s : ByteArray) (hs : s.size ≤ 1048576) (k : Nat) : posternlaw22_OpaqueNormal.j2 (k + 1) s (parT s).1 (parT s).2.2 false = some true := by
  rw [posternlaw22_OpaqueNormal.j2, if_neg (by decide)]
  by_cases h : 0 ≤ fstF (fun r => inT r 9) (pcs s 0)
  · have e : parT s = (⟨#[]⟩, fstF (fun r => inT r 9) (pcs s 0), 220) := by unfold parT; rw [if_pos h]
    rw [e]
    rfl
  · have e : parT s = (ctlS (encS (decT s)), 0, 0) := by unfold parT; rw [if_neg h]
    have en : norT s = (norS (ctlS (encS (decT s))), 0, 0) := by unfold norT; rw [if_neg h]
    have hok := parse_ok s (by omega)
    have l1 := ctl_len s
    have l2 := norS_len s
    rw [e]
    have ht : ctlS (encS (decT s)) = strOfNums (Z.encL (inSet (nW 1)) (bytesOf (encS (decT s)))) := rfl
    have hnt : norT (ctlS (encS (decT s))) = (norS (ctlS (encS (decT s))), 0, 0) := by rw [ht]; exact own_norT _ hok
    have hxo : ∀ b ∈ norL (ctlS (encS (decT s))) 0, okP b := nor_ok _ (by rw [ht]; exact strOf_at _ hok)
    have hnx : norT (norS (ctlS (encS (decT s)))) = (norS (ctlS (encS (decT s))), 0, 0) := by
      have := own_norT _ hxo
      have e2 := nor_nor (ctlS (encS (decT s)))
      unfold norS at e2 this ⊢
      rw [this, e2]
    have hsay := nor_says (ctlS (encS (decT s)))
    generalize ctlS (encS (decT s)) = t at *
    generalize norS t = x at *
    unfold opaque_Same.f opaque_Bytes.f percent_Decode.f
    rw [Normal_is s (by omega), en, Normal_is t (by omega), hnt]
    simp only [Option.bind_some]
    rw [Normal_is x (by omega), hnx, if_pos (show x.size ≤ 140737488351232 by omega), if_pos (show t.size ≤ 140737488351232 by omega), hsay]
    simp only [Option.bind_some, if_true, beq_self_eq_true]
theorem ONormal_l1 (s : ByteArray) (hs : s.size ≤ 1048576) (P : Bool) (hP : P = false → ∀ j : Int, 0 ≤ j → j < s.size → bt s j ≠ 37) (l : List (Int × Pc)) (hl : l.length ≤ 100000000) : ∀ (n k i : Nat) (Q : Bool), l.length - i = n → i ≤ l.length → n + 10 < k → posternlaw22_OpaqueNormal.l1 k s (parT s).1 (parT s).2.2 (escS s) (escS s) 0 P Q (l.map toS46) (l.length : Int) (i : Int) = some true := by
  have lu : (escS s).size ≤ 3 * s.size := by
    have := Z.encL_len escP (bytesOf s)
    rw [bytesOf_length] at this
    unfold escS
    rw [strOfNums_size]
    exact this
  have hau : allF (fun r => inT r 9) (pcs (escS s) 0) = [] := ok_all _ (esc_ok s)
  have hsay : P = false → Z.decS (escS s) = s := fun e => esc_says s (hP e)
  intro n
  induction n with
  | zero =>
    intro k i Q h1 h2 hk
    obtain ⟨k, rfl⟩ : ∃ m, k = m + 1 + 1 := ⟨k - 2, by omega⟩
    rw [posternlaw22_OpaqueNormal.l1, if_neg (by omega), if_pos rfl, OAllh_is (escS s) (by omega), hau]
    unfold opaque_Bytes.f percent_Decode.f
    rw [if_pos (show (escS s).size ≤ 140737488351232 by omega)]
    have hj := ONormal_j2 s hs k
    simp only [Option.bind_some, List.length_nil]
    rw [if_pos (by rfl)]
    cases P with
    | true =>
      rw [if_pos rfl]
      exact hj
    | false =>
      rw [if_neg (by decide)]
      cases Q with
      | true =>
        rw [if_pos rfl]
        exact hj
      | false =>
        rw [if_neg (by decide), hsay rfl, bne_self_eq_false]
        exact hj
  | succ n ih =>
    intro k i Q h1 h2 hk
    obtain ⟨k, rfl⟩ : ∃ m, k = m + 1 := ⟨k - 1, by omega⟩
    rw [posternlaw22_OpaqueNormal.l1, if_pos (by omega), if_pos (by omega), if_pos (by rw [List.length_map]; omega), show wrap64 ((i : Int) + 1) = ((i + 1 : Nat) : Int) by unfold wrap64; omega]
    cases Q with
    | true =>
      rw [if_pos rfl]
      exact ih k (i + 1) true (by omega) (by omega) (by omega)
    | false =>
      rw [if_neg (by decide)]
      exact ih k (i + 1) _ (by omega) (by omega) (by omega)
theorem ONormal_l0 (s : ByteArray) (hs : s.size ≤ 1048576) : ∀ (n k : Nat) (i : Int) (P : Bool), (s.size : Int) - i = n → 0 ≤ i → (P = false → ∀ j : Int, 0 ≤ j → j < i → bt s j ≠ 37) → n + 10000000 < k → posternlaw22_OpaqueNormal.l0 k s (parT s).1 (parT s).2.2 (escS s) (escS s) 0 P false (s.size : Int) i = some true := by
  intro n
  have hn := pcs_len s s.size 0 (by omega) (by omega)
  induction n with
  | zero =>
    intro k i P h1 h0 hP hk
    obtain ⟨k, rfl⟩ : ∃ m, k = m + 1 := ⟨k - 1, by omega⟩
    rw [posternlaw22_OpaqueNormal.l0, if_neg (by omega)]
    unfold posternref02_Pieces.f
    rw [if_pos (by omega)]
    simp only [Option.bind_some, List.length_map]
    exact ONormal_l1 s hs P (fun e j j0 j1 => hP e j j0 (by omega)) (pcs s 0) (by omega) (pcs s 0).length k 0 false (by omega) (by omega) (by omega)
  | succ n ih =>
    intro k i P h1 h0 hP hk
    obtain ⟨k, rfl⟩ : ∃ m, k = m + 1 := ⟨k - 1, by omega⟩
    rw [posternlaw22_OpaqueNormal.l0, if_pos (by omega), show wrap64 (i + 1) = i + 1 by unfold wrap64; omega]
    cases P with
    | true => exact ih k (i + 1) true (by omega) (by omega) (fun e => by cases e) (by omega)
    | false =>
      rw [if_neg (by decide), if_pos (by omega), if_pos (by omega)]
      refine ih k (i + 1) _ (by omega) (by omega) (fun e j j0 j1 => ?_) (by omega)
      by_cases hj : j < i
      · exact hP rfl j j0 hj
      · obtain rfl : j = i := by omega
        exact beq_eq_false_iff_ne.1 e
theorem same_bool (s : ByteArray) : ((parT s).2.2 == 0) = (((allF (fun r => inT r 9) (pcs s 0)).length : Int) == 0) := by
  by_cases h : fstF (fun r => inT r 9) (pcs s 0) < 0
  · have e : parT s = (ctlS (encS (decT s)), 0, 0) := by unfold parT; rw [if_neg (by omega)]
    rw [e, (fst_all s).1 h]
    rfl
  · have e : parT s = (⟨#[]⟩, fstF (fun r => inT r 9) (pcs s 0), 220) := by unfold parT; rw [if_pos (by omega)]
    have hne : allF (fun r => inT r 9) (pcs s 0) ≠ [] := fun g => h ((fst_all s).2 g)
    have hl : (allF (fun r => inT r 9) (pcs s 0)).length ≠ 0 := fun g => hne (List.eq_nil_of_length_eq_zero g)
    rw [e]
    show ((220 : Int) == 0) = _
    rw [show ((220 : Int) == 0) = false from rfl]
    exact (beq_eq_false_iff_ne.2 (by omega)).symm
theorem opaqueNormal_any (s : ByteArray) (w : World) (hs : s.size ≤ 1048576) (T : Tabs w) : Calls Tryd.prog 9 #[.string s] w fun e w' => e = .returned (.bool true) ∧ Below w.heap.size w w' := by
  obtain ⟨K, hK⟩ : ∃ K : Nat, K = 2000000000 := ⟨_, rfl⟩
  refine posternlaw22_OpaqueNormal.calls K s true w ?_ T
  have lu : (escS s).size ≤ 3 * s.size := by
    have := Z.encL_len escP (bytesOf s)
    rw [bytesOf_length] at this
    unfold escS
    rw [strOfNums_size]
    exact this
  have hpu : parT (escS s) = (escS s, 0, 0) := own_parT _ (esc_ok s)
  unfold posternlaw22_OpaqueNormal.f
  rw [awakeB_is, Parse_is s (by omega), OAllh_is s (by omega), Escape_is s (by omega)]
  simp only [Option.bind_some, if_true]
  rw [same_bool s, bne_self_eq_false, if_neg (by decide), Parse_is (escS s) (by omega), hpu]
  simp only [Option.bind_some]
  exact ONormal_l0 s hs s.size K 0 false (by omega) (by omega) (fun _ j j0 j1 => by omega) (by omega)
end Go.Proofs.YtebpghpaglpdlaaDoor
