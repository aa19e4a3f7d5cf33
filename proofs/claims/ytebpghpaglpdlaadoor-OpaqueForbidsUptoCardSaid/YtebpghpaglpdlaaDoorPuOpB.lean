/- Opaque: what First, Bytes and Strays come to, by the program and by the document. Plain. -/
import Derived.Test.YtebpghpaglpdlaaDoorOpqC
import Derived.Test.YtebpghpaglpdlaaDoorQOpbx3
import Derived.Test.YtebpghpaglpdlaaDoorQOpbx1
import Derived.Test.YtebpghpaglpdlaaDoorQOpbx7
import Derived.Test.YtebpghpaglpdlaaDoorQOpbx5
import Derived.Test.YtebpghpaglpdlaaDoorQOpbx11
import Derived.Test.YtebpghpaglpdlaaDoorQOpbx2
import Derived.Test.YtebpghpaglpdlaaDoorQOpbx9
import Derived.Test.YtebpghpaglpdlaaDoorQOpbx12
import Derived.Test.YtebpghpaglpdlaaDoorQOpbx6
set_option linter.unusedVariables false
set_option linter.unusedSimpArgs false
namespace Go.Proofs.YtebpghpaglpdlaaDoor
open Go.RowKit Go.Proofs.YtebpghpaglpdlaaDoorW.PrintWords Go.Proofs.YtebpghpaglpdlaaDoorW.PrintMore Go.Proofs.YtebpghpaglpdlaaDoorQ.Opb
theorem in9 (r : Int) : inT r 9 = forb r := by
  unfold inT
  by_cases h : r < 0 ∨ 127 < r
  · rw [if_pos h]
    unfold forb
    symm
    refine decide_eq_false fun hm => ?_
    have key : ∀ x ∈ forbL, 0 ≤ x ∧ x ≤ 127 := by decide
    have := key r hm
    omega
  · rw [if_neg h]
    have key : ∀ n : Fin 128, inSet (nW 9) (n.val : Int) = forb (n.val : Int) := by decide +kernel
    have := key ⟨r.toNat, by omega⟩
    rw [show ((r.toNat : Nat) : Int) = r by omega] at this
    exact this
/-- what Parse tells -/
def parT (s : ByteArray) : ByteArray × Int × Int := if 0 ≤ fstF (fun r => inT r 9) (pcs s 0) then (⟨#[]⟩, fstF (fun r => inT r 9) (pcs s 0), 220) else (ctlS (encS (decT s)), 0, 0)
theorem Parse_is (s : ByteArray) (hs : s.size ≤ 16777216) : opaque_Parse.f s = some (parT s) := by
  unfold opaque_Parse.f parT
  rw [if_pos hs]
  split <;> rfl
theorem awake_is : posternlaw22_awake.f = some true := by
  unfold posternlaw22_awake.f
  rw [Parse_is _ (by decide), Parse_is _ (by decide)]
  have e1 : parT (⟨#[195, 164, 37, 122, 122]⟩ : ByteArray) = (⟨#[37, 67, 51, 37, 65, 52, 37, 122, 122]⟩, 0, 0) := by decide +kernel
  have e2 : parT (⟨#[97, 32, 98]⟩ : ByteArray) = (⟨#[]⟩, 1, 220) := by decide +kernel
  rw [e1, e2]
  decide +kernel
theorem in10 (r : Int) : inT r 10 = (forb r || decide (0 ≤ r ∧ r < 32) || decide (r = 37) || decide (r = 127)) := by
  unfold inT
  by_cases h : r < 0 ∨ 127 < r
  · rw [if_pos h]
    have hf : forb r = false := by
      unfold forb
      refine decide_eq_false fun hm => ?_
      have key : ∀ x ∈ forbL, 0 ≤ x ∧ x ≤ 127 := by decide
      have := key r hm
      omega
    rw [hf, decide_eq_false (by omega), decide_eq_false (by omega), decide_eq_false (by omega)]
    rfl
  · rw [if_neg h]
    have key : ∀ n : Fin 128, inSet (nW 10) (n.val : Int) = (forb (n.val : Int) || decide (0 ≤ (n.val : Int) ∧ (n.val : Int) < 32) || decide ((n.val : Int) = 37) || decide ((n.val : Int) = 127)) := by decide +kernel
    have := key ⟨r.toNat, by omega⟩
    rw [show ((r.toNat : Nat) : Int) = r by omega] at this
    exact this
theorem RDomain_is (r : Int) : posternref22_Domain.f r = some (inT r 10) := by
  unfold posternref22_Domain.f posternref22_Host.f
  rw [in10]
  simp only [Option.bind_some]
  cases hf : forb r with
  | true => simp
  | false =>
    simp only [Bool.false_eq_true, if_false, Bool.false_or]
    by_cases h0 : r ≥ 0
    · rw [if_pos h0]
      by_cases h1 : r < 32
      · rw [if_pos h1, decide_eq_true ⟨h0, h1⟩]; rfl
      · rw [if_neg h1, decide_eq_false (fun h => h1 h.2)]
        by_cases h2 : r = 37
        · rw [if_pos h2, decide_eq_true h2]; rfl
        · rw [if_neg h2, decide_eq_false h2]
          simp only [Bool.false_or]
          congr 1
    · rw [if_neg h0, decide_eq_false (fun h => h0 h.1), if_neg (by omega), decide_eq_false (show ¬ r = 37 by omega)]
      simp only [Bool.false_or]
      congr 1
theorem RFirst_l0 (b : Bool) (l : List Int) (hl : l.length ≤ 1000000000) : ∀ (n k i : Nat), l.length - i = n → i ≤ l.length → n < k → posternref22_First.l0 k b l (l.length : Int) (i : Int) = some (if b = true then fixF (fun r => inT r 10) (l.drop i) i else fixF (fun r => inT r 9) (l.drop i) i) := by
  intro n
  induction n with
  | zero =>
    intro k i h1 h2 hk
    obtain ⟨k, rfl⟩ : ∃ m, k = m + 1 := ⟨k - 1, by omega⟩
    rw [List.drop_of_length_le (by omega)]
    simp only [posternref22_First.l0, fixF]
    rw [if_neg (by omega)]
    cases b <;> rfl
  | succ n ih =>
    intro k i h1 h2 hk
    obtain ⟨k, rfl⟩ : ∃ m, k = m + 1 := ⟨k - 1, by omega⟩
    have ih := ih k (i + 1) (by omega) (by omega) (by omega)
    have e1 := fixF_drop (f := fun r => inT r 10) (show i < l.length by omega) (i : Int)
    have e2 := fixF_drop (f := fun r => inT r 9) (show i < l.length by omega) (i : Int)
    rw [e1, e2]
    clear e1 e2
    simp only [posternref22_First.l0, RDomain_is, posternref22_Host.f, Option.bind_some, ← in9]
    rw [if_pos (by omega), if_pos (by omega), if_pos (by omega), show wrap64 ((i : Int) + 1) = ((i + 1 : Nat) : Int) by unfold wrap64; omega, ih]
    cases b with
    | true =>
      simp only [if_true]
      split <;> rfl
    | false =>
      simp only [Bool.false_eq_true, if_false]
      split <;> rfl
theorem RFirst_is (b : Bool) (l : List Int) (hl : l.length ≤ 1000000000) (k : Nat) (hk : l.length < k) : posternref22_First.f k l b = some (if b = true then fixF (fun r => inT r 10) l 0 else fixF (fun r => inT r 9) l 0) := by
  unfold posternref22_First.f
  exact RFirst_l0 b l hl l.length k 0 (by omega) (by omega) hk
theorem OFirst_is (b : Bool) (l : List Int) (hl : l.length ≤ 1000000000) : opaque_First.f l b = some (if b = true then fixF (fun r => inT r 10) l 0 else fixF (fun r => inT r 9) l 0) := by
  unfold opaque_First.f
  rw [if_pos (by omega)]
/-! ### Bytes -/
theorem dig16_is (c : Int) (h0 : 0 ≤ c) (h1 : c ≤ 255) : Z.dig c 16 = if 48 ≤ c ∧ c ≤ 57 then c - 48 else if 97 ≤ c ∧ c ≤ 102 then c - 87 else if 65 ≤ c ∧ c ≤ 70 then c - 55 else -1 := by
  have key : ∀ n : Fin 256, Z.dig (n.val : Int) 16 = if 48 ≤ (n.val : Int) ∧ (n.val : Int) ≤ 57 then (n.val : Int) - 48 else if 97 ≤ (n.val : Int) ∧ (n.val : Int) ≤ 102 then (n.val : Int) - 87 else if 65 ≤ (n.val : Int) ∧ (n.val : Int) ≤ 70 then (n.val : Int) - 55 else -1 := by decide +kernel
  have := key ⟨c.toNat, by omega⟩
  rw [show ((c.toNat : Nat) : Int) = c by omega] at this
  exact this
theorem hex_is (c : Int) (h0 : 0 ≤ c) (h1 : c ≤ 255) (k : Nat) (hk : 2 ≤ k) : posternref22_hex.f k c = some (Z.dig c 16) := by
  obtain ⟨k, rfl⟩ : ∃ m, k = m + 1 + 1 := ⟨k - 2, by omega⟩
  rw [dig16_is c h0 h1]
  have hj1 : ∀ b, posternref22_hex.j1 (k + 1) c b = some (if b = true then (c - 97) % 256 + 10 else if c ≥ 65 then (if c ≤ 70 then (c - 65) % 256 + 10 else -1) else -1) := fun b => by
    simp only [posternref22_hex.j1]
    repeat' split
    all_goals rfl
  have hj0 : ∀ b, posternref22_hex.j0 (k + 1 + 1) c b = some (if b = true then (c - 48) % 256 else if c ≥ 97 then (if c ≤ 102 then (c - 97) % 256 + 10 else if c ≥ 65 then (if c ≤ 70 then (c - 65) % 256 + 10 else -1) else -1) else if c ≥ 65 then (if c ≤ 70 then (c - 65) % 256 + 10 else -1) else -1) := fun b => by
    simp only [posternref22_hex.j0, hj1]
    cases b with
    | true => rfl
    | false =>
      simp only [Bool.false_eq_true, if_false, decide_eq_true_eq]
      split <;> rfl
  unfold posternref22_hex.f
  rw [hj0, hj0]
  simp only [decide_eq_true_eq, Bool.false_eq_true, if_false]
  repeat' split
  all_goals first | rfl | (congr 1; omega) | omega
set_option maxHeartbeats 1000000 in
theorem RBytes_l0 (s : ByteArray) (hs : s.size ≤ 1000000000) : ∀ (n k : Nat) (i : Int) (out st : List Int), (s.size : Int) - i = n → 0 ≤ i → (out.length : Int) ≤ i → (st.length : Int) ≤ i → 2 * n + 10 < k → posternref22_Bytes.l0 k s out st i = some (strOfNums (out ++ (Z.itemsF s i).map (Z.byteC s)), st ++ Z.strF s i) := by
  intro n
  induction n using Nat.strongRecOn with
  | ind n ih =>
    intro k i out st h1 h0 ho hst hk
    obtain ⟨k, rfl⟩ : ∃ m, k = m + 1 + 1 := ⟨k - 2, by omega⟩
    by_cases hlt : i < s.size
    · have w1 : wrap64 (i + 1) = i + 1 := by unfold wrap64; omega
      have w2 : wrap64 (i + 2) = i + 2 := by unfold wrap64; omega
      have w3 : wrap64 (i + 2 + 1) = i + 3 := by unfold wrap64; omega
      have hb1 := bt_range s (i + 1)
      have hb2 := bt_range s (i + 2)
      have hx1 := hex_is (bt s (i + 1)) hb1.1 hb1.2 (k + 1) (by omega)
      have hx2 := hex_is (bt s (i + 2)) hb2.1 hb2.2 (k + 1) (by omega)
      have hy1 := hex_is (bt s (i + 1)) hb1.1 hb1.2 k (by omega)
      have hy2 := hex_is (bt s (i + 2)) hb2.1 hb2.2 k (by omega)
      have hd1 := Z.dig16 (bt s (i + 1))
      have hd2 := Z.dig16 (bt s (i + 2))
      have hnx : Z.nxtC s i = if Z.isC s i = true then i + 3 else i + 1 := rfl
      have hby : Z.byteC s i = if Z.isC s i = true then Z.sayC s i else bt s i := rfl
      have hsa : Z.sayC s i = 16 * Z.dig (bt s (i + 1)) 16 + Z.dig (bt s (i + 2)) 16 := rfl
      have hC : Z.isC s i = (decide (i + 2 < s.size) && (bt s i == 37) && decide (0 ≤ Z.dig (bt s (i + 1)) 16) && decide (0 ≤ Z.dig (bt s (i + 2)) 16)) := rfl
      have hS : Z.isS s i = (!Z.isC s i && (bt s i == 37)) := rfl
      rw [Z.itemsF_go hlt, Z.strF_go hlt, List.map_cons, hby, hnx, hS]
      rw [posternref22_Bytes.l0]
      simp only [w1, w2]
      rw [if_pos hlt, if_pos h0]
      have yes : Z.isC s i = true → posternref22_Bytes.j1 (k + 1) s out st i true = some (strOfNums (out ++ (Z.sayC s i :: (Z.itemsF s (i + 3)).map (Z.byteC s))), st ++ Z.strF s (i + 3)) := fun hc => by
        rw [hC] at hc
        simp only [Bool.and_eq_true, decide_eq_true_eq, beq_iff_eq] at hc
        obtain ⟨⟨⟨c1, c2⟩, c3⟩, c4⟩ := hc
        rw [hsa]
        simp only [posternref22_Bytes.j1, if_true, w1, w2, w3]
        rw [if_pos (by omega), if_pos (by omega), hy1]
        simp only [Option.bind_some]
        rw [if_pos (by omega), if_pos (by omega), hy2]
        simp only [Option.bind_some]
        rw [if_pos (by omega), ih (n - 3) (by omega) k (i + 3) _ _ (by omega) (by omega) (by rw [List.length_append, List.length_singleton]; omega) (by omega) (by omega)]
        rw [show wrap64 (wrap64 (16 * Z.dig (bt s (i + 1)) 16) + Z.dig (bt s (i + 2)) 16) % 256 = 16 * Z.dig (bt s (i + 1)) 16 + Z.dig (bt s (i + 2)) 16 by unfold wrap64; omega]
        simp
      have no : posternref22_Bytes.j1 (k + 1) s out st i false = some (strOfNums (out ++ (37 :: (Z.itemsF s (i + 1)).map (Z.byteC s))), st ++ (i :: Z.strF s (i + 1))) := by
        simp only [posternref22_Bytes.j1, Bool.false_eq_true, if_false, w1]
        rw [if_pos (by omega), if_pos (by omega), ih (n - 1) (by omega) k (i + 1) _ _ (by omega) (by omega) (by rw [List.length_append, List.length_singleton]; omega) (by rw [List.length_append, List.length_singleton]; omega) (by omega)]
        simp
      by_cases c1 : bt s i = 37
      · rw [if_pos c1]
        by_cases c2 : i + 2 < s.size
        · rw [if_pos c2, if_pos (by omega), if_pos (by omega), hx1]
          simp only [Option.bind_some]
          by_cases c3 : Z.dig (bt s (i + 1)) 16 ≥ 0
          · rw [if_pos c3, if_pos (by omega), hx2]
            simp only [Option.bind_some]
            by_cases c4 : Z.dig (bt s (i + 2)) 16 ≥ 0
            · have hc : Z.isC s i = true := by rw [hC, decide_eq_true c2, c1, decide_eq_true c3, decide_eq_true c4]; rfl
              rw [decide_eq_true c4, yes hc, hc]
              simp
            · have hc : Z.isC s i = false := by rw [hC, decide_eq_false (show ¬ 0 ≤ Z.dig (bt s (i + 2)) 16 from c4)]; simp
              rw [decide_eq_false c4, no, hc, c1]
              simp
          · have hc : Z.isC s i = false := by rw [hC, decide_eq_false (show ¬ 0 ≤ Z.dig (bt s (i + 1)) 16 from c3)]; simp
            rw [if_neg c3, no, hc, c1]
            simp
        · have hc : Z.isC s i = false := by rw [hC, decide_eq_false c2]; simp
          rw [if_neg c2, no, hc, c1]
          simp
      · have hc : Z.isC s i = false := by rw [hC, show (bt s i == 37) = false from beq_eq_false_iff_ne.2 c1]; simp
        rw [if_neg c1, if_pos (by omega), ih (n - 1) (by omega) (k + 1) (i + 1) _ _ (by omega) (by omega) (by rw [List.length_append, List.length_singleton]; omega) (by omega) (by omega), hc, show (bt s i == 37) = false from beq_eq_false_iff_ne.2 c1]
        simp
    · obtain rfl : i = s.size := by omega
      rw [posternref22_Bytes.l0, if_neg (by omega), Z.itemsF_end, Z.strF_end]
      simp
theorem RBytes_is (s : ByteArray) (hs : s.size ≤ 1000000000) (k : Nat) (hk : 2 * s.size + 10 < k) : posternref22_Bytes.f k s = some (Z.decS s, Z.strF s 0) := by
  unfold posternref22_Bytes.f
  have := RBytes_l0 s hs s.size k 0 [] [] (by omega) (by omega) (by simp) (by simp) hk
  rw [List.nil_append, List.nil_append] at this
  exact this
end Go.Proofs.YtebpghpaglpdlaaDoor
