/- Opaque: free and Normal, by the program. -/
import Derived.Test.YtebpghpaglpdlaaDoorOpqC
set_option linter.unusedVariables false
set_option linter.unusedSimpArgs false
namespace Go.Proofs.YtebpghpaglpdlaaDoor
open Go.RowKit Go.Proofs.YtebpghpaglpdlaaDoorW.PrintWords Go.Proofs.YtebpghpaglpdlaaDoorW.PrintLast
def aln (b : Int) : Bool := decide (48 ≤ b ∧ b ≤ 57) || decide (65 ≤ b ∧ b ≤ 90) || decide (97 ≤ b ∧ b ≤ 122)
def idx4 (b : Int) : Int := if b = 45 then 0 else if b = 46 then 1 else if b = 95 then 2 else if b = 126 then 3 else -1
/-- need a byte not be coded? -/
def freeB (b : Int) : Bool := aln b || decide (0 ≤ idx4 b)
theorem and7 (b : Int) (h0 : 0 ≤ b) (h1 : b < 256) : (bits BinOp.and IntKind.i64 (Z.cls b) 7 == 0) = !aln b := Z.each256 (p := fun b => (bits BinOp.and IntKind.i64 (Z.cls b) 7 == 0)) (q := fun b => !aln b) (by kernel_rfl) b h0 h1
theorem idx4_any (c : Int) (w : World) (h0 : 0 ≤ c) (h1 : c < 256) : Calls Tryd.prog 65 #[.string ⟨#[45, 46, 95, 126]⟩, .int .u8 c] w fun e w' => e = .returned (.int .i64 (idx4 c)) ∧ w' = w := by
  have h := Z.sIdx_any ⟨#[45, 46, 95, 126]⟩ c w
  have e : Lib.indexByte (ByteArray.mk #[45, 46, 95, 126]).data.toList c.toNat.toUInt8 = idx4 c := Z.each256 (p := fun c => Lib.indexByte (ByteArray.mk #[45, 46, 95, 126]).data.toList c.toNat.toUInt8) (q := idx4) (by kernel_rfl) c h0 h1
  rw [e] at h
  exact h
set_option maxHeartbeats 1000000 in
theorem free_any (b : Int) (w : World) (h0 : 0 ≤ b) (h1 : b ≤ 255) : Calls Tryd.prog 49 #[.int .u8 b] w fun e w' => e = .returned (.bool (freeB b)) ∧ Below w.heap.size w w' := by
  have h7 := and7 b h0 (by omega)
  have hC := Lib.hid (fun W => Z.class_any b W h0 h1)
  have hI := Lib.hid (fun W => idx4_any b W h0 (by omega))
  unfold freeB
  generalize Z.cls b = c at *
  generalize idx4 b = i at *
  cases ha : aln b with
  | true =>
    have h8 : (bits BinOp.and IntKind.i64 c 7 != 0) = true := by rw [bne, h7, ha]; rfl
    rw [Bool.true_or]
    rw [ha] at h7
    clear ha
    go_enter Tryd.func49, Tryd.ntmps49
    go_wp2_with (first
      | (go_at_call 64; (with_reducible refine (hC.out _).mono ?_); rintro e w1 ⟨rfl, rfl⟩)
      | (go_at_call 65; (with_reducible refine (hI.out _).mono ?_); rintro e w1 ⟨rfl, rfl⟩))
    go_ret
    exact ⟨rfl, by first | exact Below.refl _ _ | exact below_drewN (Below.refl _ _) _⟩
  | false =>
    have h8 : (bits BinOp.and IntKind.i64 c 7 != 0) = false := by rw [bne, h7, ha]; rfl
    rw [Bool.false_or]
    rw [ha] at h7
    clear ha
    go_enter Tryd.func49, Tryd.ntmps49
    go_wp2_with (first
      | (go_at_call 64; (with_reducible refine (hC.out _).mono ?_); rintro e w1 ⟨rfl, rfl⟩)
      | (go_at_call 65; (with_reducible refine (hI.out _).mono ?_); rintro e w1 ⟨rfl, rfl⟩))
    go_ret
    exact ⟨rfl, by first | exact Below.refl _ _ | exact below_drewN (Below.refl _ _) _⟩
/-- how an item of a text is written in the one way -/
def norB (t : ByteArray) (p : Int) : List Int := if Z.isC t p = true then (if freeB (Z.sayC t p) = true then [Z.sayC t p] else Z.codeL (Z.sayC t p)) else if bt t p = 37 then [37, 50, 53] else [bt t p]
def norL (t : ByteArray) (p : Int) : List Int := (Z.itemsF t p).flatMap (norB t)
def norS (t : ByteArray) : ByteArray := strOfNums (norL t 0)
theorem norL_go {t : ByteArray} {p : Int} (h : p < t.size) : norL t p = norB t p ++ norL t (Z.nxtC t p) := by unfold norL; rw [Z.itemsF_go h, List.flatMap_cons]
theorem norL_end (t : ByteArray) : norL t t.size = [] := by unfold norL; rw [Z.itemsF_end]; rfl
theorem norB_len (t : ByteArray) (p : Int) : 1 ≤ (norB t p).length ∧ (norB t p).length ≤ 3 := by
  unfold norB Z.codeL
  repeat' split
  all_goals simp
theorem norL_len (t : ByteArray) (n : Nat) : ∀ p : Int, 0 ≤ p → (t.size : Int) - p = n → (norL t p).length ≤ 3 * n := by
  induction n using Nat.strongRecOn with
  | ind n ih =>
    intro p h0 h1
    by_cases hlt : p < t.size
    · have hg := Z.nxtC_gt t p
      have hl := Z.nxtC_le t p hlt
      have := ih (t.size - Z.nxtC t p).toNat (by omega) (Z.nxtC t p) (by omega) (by omega)
      have := norB_len t p
      rw [norL_go hlt, List.length_append]
      omega
    · obtain rfl : p = t.size := by omega
      rw [norL_end]
      simp
theorem sayC_range (t : ByteArray) (p : Int) (h : Z.isC t p = true) : 0 ≤ Z.sayC t p ∧ Z.sayC t p ≤ 255 := by
  have e1 := Z.dig16 (bt t (p + 1))
  have e2 := Z.dig16 (bt t (p + 2))
  unfold Z.isC at h
  simp only [Bool.and_eq_true, decide_eq_true_eq] at h
  obtain ⟨⟨-, h1⟩, h2⟩ := h
  unfold Z.sayC
  omega
theorem norB_range (t : ByteArray) (p : Int) : ∀ x ∈ norB t p, 0 ≤ x ∧ x ≤ 255 := by
  intro x hx
  have hb := bt_range t p
  unfold norB Z.codeL at hx
  by_cases hc : Z.isC t p = true
  · have hs := sayC_range t p hc
    rw [if_pos hc] at hx
    have h1 := Z.up_range (Z.sayC t p / 16)
    have h2 := Z.up_range (Z.sayC t p % 16)
    split at hx <;> simp only [List.mem_cons, List.not_mem_nil, or_false] at hx
    · omega
    · rcases hx with rfl | rfl | rfl
      · omega
      · exact h1
      · exact h2
  · rw [if_neg hc] at hx
    split at hx <;> simp only [List.mem_cons, List.not_mem_nil, or_false] at hx <;> omega
theorem norL_range (t : ByteArray) (p : Int) : ∀ x ∈ norL t p, 0 ≤ x ∧ x ≤ 255 := by
  intro x hx
  unfold norL at hx
  rw [List.mem_flatMap] at hx
  obtain ⟨q, -, hx⟩ := hx
  exact norB_range t q x hx
set_option maxRecDepth 100000 in
theorem Normal_err (s : ByteArray) (w : World) (hs : s.size ≤ 16777216) (T : Tabs w) (h : 0 ≤ fstF (fun r => inT r 9) (pcs s 0)) : Calls Tryd.prog 31 #[.string s] w fun e w' => e = .returned (.tuple #[.string ByteArray.empty, .int .i64 (fstF (fun r => inT r 9) (pcs s 0)), .int .i64 220]) ∧ Below w.heap.size w w' := by
  have hP := Parse_any s w hs T
  unfold parV at hP
  rw [if_pos h] at hP
  generalize fstF (fun r => inT r 9) (pcs s 0) = F at *
  have HP := Lib.hid hP
  clear hP
  go_enter Tryd.func31, Tryd.ntmps31
  go_wp2_with (go_at_call 11; (with_reducible refine (HP.out).mono ?_); rintro e w1 ⟨rfl, hb⟩)
  go_ret3
  exact ⟨rfl, hb⟩
set_option maxHeartbeats 8000000 in
set_option maxRecDepth 100000 in
theorem Normal_ok (s : ByteArray) (w : World) (hs : s.size ≤ 16777216) (T : Tabs w) (h : ¬ 0 ≤ fstF (fun r => inT r 9) (pcs s 0)) : Calls Tryd.prog 31 #[.string s] w fun e w' => e = .returned (.tuple #[.string (norS (ctlS (encS (decT s)))), .int .i64 0, .int .i64 0]) ∧ Below w.heap.size w w' := by
  have hP := Parse_any s w hs T
  unfold parV at hP
  rw [if_neg h] at hP
  have hdl : (decT s).length ≤ s.size := by unfold decT; rw [List.length_map]; exact pcs_len s s.size 0 (by omega) (by omega)
  have hel : (encS (decT s)).size ≤ 4 * (decT s).length := by rw [encS_size]; exact encL_len _
  have hcl : (ctlS (encS (decT s))).size ≤ 3 * (encS (decT s)).size := by
    have := Z.encL_len (inSet (nW 1)) (bytesOf (encS (decT s)))
    rw [bytesOf_length] at this
    unfold ctlS
    rw [strOfNums_size]
    exact this
  have hsz : (ctlS (encS (decT s))).size ≤ 1000000000 := by omega
  clear hdl hel hcl h
  generalize ctlS (encS (decT s)) = t at *
  have hTl := norL_len t t.size 0 (by omega) (by omega)
  have hTr := norL_range t 0
  obtain ⟨R, hR⟩ : ∃ R, norL t 0 = R := ⟨_, rfl⟩
  have hS : norS t = strOfNums R := by unfold norS; rw [hR]
  rw [hS]
  rw [hR] at hTl hTr
  have HR := Lib.hid hR
  have HP := Lib.hid hP
  have HTr := Lib.hid hTr
  clear hP hR hS hTr
  go_enter Tryd.func31, Tryd.ntmps31
  go_upto_region 6 with (go_at_call 11; (with_reducible refine (HP.out).mono ?_); rintro e w1 ⟨rfl, hb⟩)
  have hb1 := hb.size
  have hB0 : w.heap.size ≤ w1.heap.size := hb1
  go_loopw [9] (fun v wr => ∃ (k : Int) (xs : List Int), v = .int .i64 k ∧ 0 ≤ k ∧ k ≤ t.size ∧ Hid (xs ++ norL t k = R) ∧ xs.length ≤ 3 * t.size ∧ Z.Bld wr w1.heap.size w1.heap.size xs ∧ Below w.heap.size w wr) (fun v _ => t.size - (intOf v).toNat)
  case atStart => exact ⟨0, [], rfl, by omega, by omega, HR, by simp, Z.Bld.at_new rfl (Nat.le_refl _), below_alloc hb _⟩
  case round =>
    clear HR
    obtain ⟨k, xs, rfl, hk0, hk1, hX, hxl, hB, hbel⟩ := hrel
    have hsz1 := hB.lt
    by_cases hlt : k < t.size
    · have hg := norL_go hlt
      have hnl := Z.nxtC_le t k hlt
      have hng := Z.nxtC_gt t k
      have hbl := norB_len t k
      have step : xs ++ norB t k ++ norL t (Z.nxtC t k) = R := by rw [List.append_assoc, ← hg]; exact hX.out
      have hrl := congrArg List.length step
      rw [List.length_append, List.length_append] at hrl
      clear hX hg
      have hsay : Z.sayC t k = 16 * Z.dig (bt t (k + 1)) 16 + Z.dig (bt t (k + 2)) 16 := rfl
      have hcdef : Z.isC t k = (decide (k + 2 < t.size) && (bt t k == 37) && decide (0 ≤ Z.dig (bt t (k + 1)) 16) && decide (0 ≤ Z.dig (bt t (k + 2)) 16)) := rfl
      have hnx : Z.nxtC t k = if Z.isC t k = true then k + 3 else k + 1 := rfl
      have hnb : norB t k = if Z.isC t k = true then (if freeB (Z.sayC t k) = true then [Z.sayC t k] else Z.codeL (Z.sayC t k)) else if bt t k = 37 then [37, 50, 53] else [bt t k] := rfl
      have hsr := sayC_range t k
      have b0 := bt_at t k
      have r0 := bt_range t k
      by_cases c37 : bt t k = 37
      · have hne : (bt t k != 37) = false := bne_eq_false_iff_eq.2 c37
        have b1 := bt_at t (k + 1)
        have r1 := bt_range t (k + 1)
        have b2 := bt_at t (k + 2)
        have r2 := bt_range t (k + 2)
        by_cases hl : k + 2 < t.size
        · have e1 := Z.dig16 (bt t (k + 1))
          have e2 := Z.dig16 (bt t (k + 2))
          have D1 := Lib.hid (fun W => Z.digit_any (bt t (k + 1)) 16 W r1.1 r1.2)
          have D2 := Lib.hid (fun W => Z.digit_any (bt t (k + 2)) 16 W r2.1 r2.2)
          by_cases h1 : 0 ≤ Z.dig (bt t (k + 1)) 16
          · by_cases h2 : 0 ≤ Z.dig (bt t (k + 2)) 16
            · have hc : Z.isC t k = true := by rw [hcdef, c37, decide_eq_true hl, decide_eq_true h1, decide_eq_true h2]; rfl
              have hsr := hsr hc
              have ho := Z.or16 (Z.dig (bt t (k + 1)) 16) (Z.dig (bt t (k + 2)) 16) e1 e2 ⟨h1, h2⟩
              rw [← hsay, IntKind.wrap_u8] at ho
              have hF := Lib.hid (fun W => free_any (Z.sayC t k) W hsr.1 hsr.2)
              have hX := Lib.hid (fun W => Z.hex_any (Z.sayC t k) W hsr.1 hsr.2)
              have hcs := Z.codeS_eq (Z.sayC t k)
              have hcz := Z.codeS_size (Z.sayC t k)
              have hcb := Z.codeS_bytes (Z.sayC t k)
              have hhz := Nat.le_of_eq (Z.hexS_size (Z.sayC t k))
              rw [hc] at hnx hnb
              simp only [if_true] at hnx hnb
              rw [← hcb] at hnb
              clear hsay hcdef hcb hc hbl hng
              generalize Z.sayC t k = c at *
              generalize Z.codeS c = cS at *
              generalize Z.hexS c = hS at *
              generalize bt t (k + 1) = q1 at *
              generalize bt t (k + 2) = q2 at *
              generalize Z.dig q1 16 = d1 at *
              generalize Z.dig q2 16 = d2 at *
              have hn1 : decide (d1 < 0) = false := decide_eq_false (by omega)
              have hn2 : decide (d2 < 0) = false := decide_eq_false (by omega)
              have Hnb := Lib.hid hnb
              have Hst := Lib.hid step
              have Hrl := Lib.hid hrl
              clear hnb step hrl
              go_upto_region 12 with (go_at_call 47; first
                | (with_reducible refine (D1.out _).mono ?_; rintro e w' ⟨rfl, rfl⟩)
                | (with_reducible refine (D2.out _).mono ?_; rintro e w' ⟨rfl, rfl⟩))
              go_quiet ((first | (go_at_call 47; with_reducible exact Calls.quiet_of_same (D1.out _)) | (go_at_call 47; with_reducible exact Calls.quiet_of_same (D2.out _))))
              have hst := Hst.out
              have hrl := Hrl.out
              clear Hst Hrl D1 D2
              cases hf : freeB c with
              | true =>
                have hnb := Hnb.out
                rw [hf, if_pos rfl] at hnb
                rw [hnb, hnx] at hst hrl
                rw [hf] at hF
                have Hs := Lib.hid hst
                simp only [List.length_singleton] at hrl
                clear hst hnb Hnb hnx hf
                go_wp2_with (first
                  | (go_at_call 49; (with_reducible refine (hF.out _).mono ?_); rintro e w3 ⟨rfl, hb3⟩; have hb3' := below_after (below_drewN (Below.refl _ _) _) hb3; have hB3 := hB.after hb3')
                  | (go_at_call 46; (with_reducible refine (Z.writeByte_any _ _ xs c _ hB3 (by omega) (by have := hb3'.size; omega)).mono ?_); rintro e w4 ⟨rfl, hB4, hb4⟩))
                exact ⟨⟨k + 3, _, by first | rfl | (congr 1; omega), by omega, by omega, Hs, by rw [List.length_append, List.length_singleton]; omega, hB4, (below_after hbel hb3').trans (hb4.mono (by omega))⟩, by simp [intOf]; omega⟩
              | false =>
                have hnb := Hnb.out
                rw [hf, if_neg (by decide)] at hnb
                rw [hnb, hnx] at hst hrl
                rw [hf] at hF
                have Hs := Lib.hid hst
                rw [bytesOf_length, hcz] at hrl
                clear hst hnb Hnb hnx hf
                go_wp2_with (first
                  | (go_at_call 49; (with_reducible refine (hF.out _).mono ?_); rintro e w3 ⟨rfl, hb3⟩; have hb3' := below_after (below_drewN (Below.refl _ _) _) hb3; have hB3 := hB.after hb3')
                  | (go_at_call 50; (with_reducible refine (hX.out _).mono ?_); rintro e w4 ⟨rfl, hb4⟩; have hB4 := hB3.after hb4)
                  | (go_at_call 48; (with_reducible refine (Z.writeString_any _ _ xs cS _ hB4 (by rw [hcz]; omega) (by have := hb3'.size; have := hb4.size; omega)).mono ?_); rintro e w5 ⟨rfl, hB5, hb5⟩))
                exact ⟨⟨k + 3, _, by first | rfl | (congr 1; omega), by omega, by omega, Hs, by rw [List.length_append, bytesOf_length, hcz]; omega, hB5, (below_after (below_after hbel hb3') hb4).trans (hb5.mono (by omega))⟩, by simp [intOf]; omega⟩
            · have hc : Z.isC t k = false := by rw [hcdef, decide_eq_false h2]; simp
              have hn1 : decide (Z.dig (bt t (k + 1)) 16 < 0) = false := decide_eq_false (by omega)
              have hn2 : decide (Z.dig (bt t (k + 2)) 16 < 0) = true := decide_eq_true (by omega)
              rw [hc] at hnx hnb
              simp only [Bool.false_eq_true, if_false] at hnx hnb
              rw [if_pos c37] at hnb
              rw [hnb, hnx] at step
              rw [hnb, hnx] at hrl
              have Hs := Lib.hid step
              clear step hnx hnb hc hcdef hsay hsr hng hnl hbl
              simp only [List.length_cons, List.length_nil] at hrl
              generalize bt t (k + 1) = q1 at *
              generalize bt t (k + 2) = q2 at *
              generalize Z.dig q1 16 = d1 at *
              generalize Z.dig q2 16 = d2 at *
              go_wp2_with (first
                | (go_at_call 47; first
                  | (with_reducible refine (D1.out _).mono ?_; rintro e w' ⟨rfl, rfl⟩)
                  | (with_reducible refine (D2.out _).mono ?_; rintro e w' ⟨rfl, rfl⟩))
                | (go_at_call 48; (with_reducible refine (Z.writeString_any _ _ xs ⟨#[37, 50, 53]⟩ _ (by first | exact hB | exact hB.drew) (by rw [show (⟨#[37, 50, 53]⟩ : ByteArray).size = 3 from rfl]; omega) (by first | omega | (simp only [World.drew_size]; omega))).mono ?_); rintro e w4 ⟨rfl, hB4, hb4⟩))
              exact ⟨⟨k + 1, _, rfl, by omega, by omega, Hs, by rw [List.length_append]; simp only [List.length_cons, List.length_nil]; omega, hB4, hbel.trans (hb4.mono (by omega))⟩, by simp [intOf]; omega⟩
          · have hc : Z.isC t k = false := by rw [hcdef, decide_eq_false h1]; simp
            have hn1 : decide (Z.dig (bt t (k + 1)) 16 < 0) = true := decide_eq_true (by omega)
            rw [hc] at hnx hnb
            simp only [Bool.false_eq_true, if_false] at hnx hnb
            rw [if_pos c37] at hnb
            rw [hnb, hnx] at step
            rw [hnb, hnx] at hrl
            have Hs := Lib.hid step
            clear step hnx hnb hc hcdef hsay hsr hng hnl hbl
            simp only [List.length_cons, List.length_nil] at hrl
            generalize bt t (k + 1) = q1 at *
            generalize Z.dig q1 16 = d1 at *
            go_wp2_with (first
              | (go_at_call 47; (with_reducible refine (D1.out _).mono ?_); rintro e w' ⟨rfl, rfl⟩)
              | (go_at_call 48; (with_reducible refine (Z.writeString_any _ _ xs ⟨#[37, 50, 53]⟩ _ (by first | exact hB | exact hB.drew) (by rw [show (⟨#[37, 50, 53]⟩ : ByteArray).size = 3 from rfl]; omega) (by first | omega | (simp only [World.drew_size]; omega))).mono ?_); rintro e w4 ⟨rfl, hB4, hb4⟩))
            exact ⟨⟨k + 1, _, rfl, by omega, by omega, Hs, by rw [List.length_append]; simp only [List.length_cons, List.length_nil]; omega, hB4, hbel.trans (hb4.mono (by omega))⟩, by simp [intOf]; omega⟩
        · have hc : Z.isC t k = false := by rw [hcdef, decide_eq_false hl]; rfl
          rw [hc] at hnx hnb
          simp only [Bool.false_eq_true, if_false] at hnx hnb
          rw [if_pos c37] at hnb
          rw [hnb, hnx] at step
          rw [hnb, hnx] at hrl
          have Hs := Lib.hid step
          clear step hnx hnb hc hcdef hsay hsr hng hnl hbl
          simp only [List.length_cons, List.length_nil] at hrl
          go_wp2_with (first | (go_at_call 48; (with_reducible refine (Z.writeString_any _ _ xs ⟨#[37, 50, 53]⟩ _ (by first | exact hB | exact hB.drew) (by rw [show (⟨#[37, 50, 53]⟩ : ByteArray).size = 3 from rfl]; omega) (by first | omega | (simp only [World.drew_size]; omega))).mono ?_); rintro e w4 ⟨rfl, hB4, hb4⟩))
          exact ⟨⟨k + 1, _, rfl, by omega, by omega, Hs, by rw [List.length_append]; simp only [List.length_cons, List.length_nil]; omega, hB4, hbel.trans (hb4.mono (by omega))⟩, by simp [intOf]; omega⟩
      · have hc : Z.isC t k = false := by rw [hcdef, show (bt t k == 37) = false from beq_eq_false_iff_ne.2 c37]; simp
        rw [hc] at hnx hnb
        simp only [Bool.false_eq_true, if_false] at hnx hnb
        rw [if_neg c37] at hnb
        rw [hnb, hnx] at step
        rw [hnb, hnx] at hrl
        have hne : (bt t k != 37) = true := bne_iff_ne.2 c37
        have Hs := Lib.hid step
        clear step hnx hnb hc hcdef hsay hsr hng hnl hbl
        simp only [List.length_singleton] at hrl
        go_wp2_with (first
          | (go_at_call 46; (with_reducible refine (Z.writeByte_any _ _ xs (bt t k) _ (by first | exact hB | exact hB.drew) (by omega) (by first | omega | (simp only [World.drew_size]; omega))).mono ?_); rintro e w4 ⟨rfl, hB4, hb4⟩))
        exact ⟨⟨k + 1, _, rfl, by omega, by omega, Hs, by rw [List.length_append, List.length_singleton]; omega, hB4, hbel.trans (hb4.mono (by omega))⟩, by simp [intOf]; omega⟩
    · obtain rfl : k = t.size := by omega
      have hX2 := hX.out
      rw [norL_end, List.append_nil] at hX2
      subst hX2
      have HS := Lib.hid (fun W h => Z.string_any w1.heap.size w1.heap.size xs W h HTr.out)
      clear hX
      go_wp2_with (go_at_call 51; (with_reducible refine (HS.out _ hB (by omega)).mono ?_); rintro e w3 ⟨rfl, hb3⟩)
      go_ret3
      exact ⟨rfl, hbel.trans (hb3.mono (by omega))⟩
end Go.Proofs.YtebpghpaglpdlaaDoor
