/- Scalar: the first piece of a text, by the program. -/
import Derived.Test.YtgippjhkimohlaaDoorScaF
import Derived.Laws.ResultCell
set_option linter.unusedVariables false
set_option linter.unusedSimpArgs false
namespace Go.Proofs.YtgippjhkimohlaaDoor
open Go.RowKit Go.Proofs.YtgippjhkimohlaaDoorW.PrintWords Go.Proofs.YtgippjhkimohlaaDoorW.PrintLast
/-- a piece as a value -/
abbrev pcV (a : Int) (p : Pc) : Value := .agg #[.int .i64 a, .int .i64 p.size, .int .i32 p.rune, .bool p.bad]
/-- how far the loop has come: n bytes, the bounds of the next one -/
structure FAt (t : ByteArray) (lo hi m n : Int) : Prop where
  one : 1 ≤ n
  size : n ≤ t.size
  ok : ∀ i, 1 ≤ i → i < n → okB t i
  more : m = bgM (bt t 0) + 1 - n
  pos : 0 ≤ m
  lohi : (n = 1 ∧ lo = bgLo (bt t 0) ∧ hi = bgHi (bt t 0)) ∨ (n ≠ 1 ∧ lo = 128 ∧ hi = 191)
theorem FAt.start (t : ByteArray) (ht : 0 < t.size) : FAt t (bgLo (bt t 0)) (bgHi (bt t 0)) (bgM (bt t 0)) 1 :=
  ⟨by omega, by omega, fun i _ _ => by omega, by omega, by have := bgN_range (bt t 0); unfold bgM; split <;> omega, Or.inl ⟨rfl, rfl, rfl⟩⟩
theorem FAt.in_ {t : ByteArray} {lo hi m n : Int} (h : FAt t lo hi m n) : okB t n ↔ lo ≤ bt t n ∧ bt t n ≤ hi := by
  rcases h.lohi with ⟨rfl, rfl, rfl⟩ | ⟨hn, rfl, rfl⟩
  · exact ⟨fun k => by rcases k with k | k; exact k.2; exact absurd rfl k.1, fun k => Or.inl ⟨rfl, k⟩⟩
  · exact ⟨fun k => by rcases k with k | k; exact absurd k.1 hn; exact k.2, fun k => Or.inr ⟨hn, k⟩⟩
theorem FAt.next {t : ByteArray} {lo hi m n : Int} (h : FAt t lo hi m n) (h1 : 0 < m) (h2 : n < t.size) (h3 : lo ≤ bt t n ∧ bt t n ≤ hi) : FAt t 128 191 (m - 1) (n + 1) := by
  have hp := h.one
  refine ⟨by omega, by omega, fun i hi hl => ?_, by have := h.more; omega, by omega, Or.inr ⟨by omega, rfl, rfl⟩⟩
  by_cases e : i = n
  · rw [e]; exact h.in_.2 h3
  · exact h.ok i hi (by omega)
theorem bgM_is (c : Int) (h : bgN c ≠ 1) : (bgN c = 0 ∧ bgM c = 0) ∨ (2 ≤ bgN c ∧ bgM c = bgN c - 1) := by
  have := bgN_range c
  unfold bgM
  split <;> omega
theorem FAt.small {t : ByteArray} {lo hi m n : Int} (h : FAt t lo hi m n) : m ≤ 3 ∧ n ≤ 4 := by
  have h1 := h.one
  have h2 := h.more
  have h3 := h.pos
  have := bgN_range (bt t 0)
  have : bgM (bt t 0) ≤ 3 := by unfold bgM; split <;> omega
  omega
theorem FAt.done {t : ByteArray} {lo hi m n : Int} (h : FAt t lo hi m n) (ht : 0 < t.size) (hc : bgN (bt t 0) ≠ 1) (h1 : 0 < m → n < t.size → ¬ (lo ≤ bt t n ∧ bt t n ≤ hi)) : runT t = n := by
  have hp := h.one
  have hs := h.size
  have hm := h.more
  have h0 := h.pos
  have hb := bgM_is _ hc
  refine (RunIs.eq ⟨h.one, h.ok, h.size, by omega, ?_⟩ ht).symm
  by_cases c1 : 0 < m
  · by_cases c2 : n < t.size
    · exact Or.inr (Or.inr fun k => h1 c1 c2 (h.in_.1 k))
    · exact Or.inr (Or.inl (by omega))
  · exact Or.inl (by omega)
theorem FAt.whole {t : ByteArray} {lo hi m n : Int} (h : FAt t lo hi m n) (hc : bgN (bt t 0) ≠ 1) (hr : runT t = n) : (m = 0 ∧ 1 < n ↔ runT t = bgN (bt t 0)) := by
  have hp := h.one
  have hm := h.more
  have hb := bgM_is _ hc
  omega
theorem FAt.open_ {t : ByteArray} {lo hi m n : Int} (h : FAt t lo hi m n) (hc : bgN (bt t 0) ≠ 1) (hr : runT t = n) (hn : ¬ (m = 0 ∧ 1 < n)) : opnT t = decide (0 < m ∧ n = t.size) := by
  have hp := h.one
  have hm := h.more
  have h0 := h.pos
  have hb := bgM_is _ hc
  unfold opnT
  rw [hr]
  exact decide_eq_decide.2 (by omega)
theorem ascii_run {t : ByteArray} (ht : 0 < t.size) (h : bt t 0 < 128) : fstT t = ⟨1, bt t 0, false⟩ ∧ opnT t = false := by
  have hb : bgN (bt t 0) = 1 := by unfold bgN; rw [if_pos h]
  have hr : runT t = 1 := by unfold runT; rw [if_pos (by omega)]
  constructor
  · unfold fstT
    rw [hr, hb, if_pos rfl]
    unfold valT lead
    rw [if_pos rfl, if_pos h]
  · unfold opnT
    rw [hr, hb]
    exact decide_eq_false (by omega)
/-- a struct in memory and a plain value as results -/
theorem ret_blk_tmp {P : Program} {fn : Func} {p u : Tmp} {ty : TypeId} (h : fn.results = #[.cell p ty, .tmp u]) (tmps : Array Value) (w : World) (g : Nat) (t : TypeId) (cs : Array Value) (d : TypeDesc)
    (hp : tmps.getD p undef = .pointer (some ⟨g, 0, none⟩)) (hb : Blk w g t cs) (hu : P.underlying ty = some d) (hd : (match d with | .struct _ | .array _ _ => true | _ => false) = true) (n : Nat) (hi : (P.info? ty).map (·.size) = some n) (hn : cs.size = n) :
    (results fn tmps).run P w = .ok (.tuple #[.agg cs, tmps.getD u undef]) w := by
  rw [results_cell_tmp h tmps P w, hp]
  simp only [asAddr, Sem.run_pure, Result.andThen_ok, run_loadVar_row w g t ty cs (0, 0) d hb hu hd (by rw [hi, hn])]
theorem Blk.facts {w : World} {g : Nat} {t : TypeId} {a b c d : Value} (h : Blk w g t #[a, b, c, d]) :
    w.cell? ⟨g, 0, none⟩ = some a ∧ w.cell? ⟨g, 1, none⟩ = some b ∧ w.cell? ⟨g, 2, none⟩ = some c ∧ w.cell? ⟨g, 3, none⟩ = some d ∧ w.frozen? ⟨g, 0, none⟩ = false ∧ w.frozen? ⟨g, 1, none⟩ = false ∧ w.frozen? ⟨g, 2, none⟩ = false ∧ w.frozen? ⟨g, 3, none⟩ = false :=
  ⟨h.cell 0, h.cell 1, h.cell 2, h.cell 3, h.frozen 0, h.frozen 1, h.frozen 2, h.frozen 3⟩
theorem size_pc : (Tryd.prog.info? 32).map (·.size) = some 4 := by kernel_rfl
set_option maxRecDepth 100000 in
set_option maxHeartbeats 4000000 in
theorem first_any (t : ByteArray) (w : World) (ht : 0 < t.size) (hs : t.size ≤ 140737488351232) (T : Tabs w) :
    Calls Tryd.prog 61 #[.string t] w fun e w' => e = .returned (.tuple #[pcV 0 (fstT t), .bool (opnT t)]) ∧ Below w.heap.size w w' := by
  have hbt := bt_at t 0
  simp only [show (0 : Int).toNat = 0 from rfl] at hbt
  have hbr := bt_range t 0
  by_cases hc : bt t 0 < 128
  · obtain ⟨e1, e2⟩ := ascii_run ht hc
    rw [e1, e2]
    go_enter Tryd.func61, Tryd.ntmps61
    go_wp2
    exact bodyPost_ret (v := .tuple #[pcV 0 ⟨1, bt t 0, false⟩, .bool false]) (by simp [results, Tryd.results61, go_sem]) rfl ⟨rfl, below_one _ _⟩
  · have hcn : bgN (bt t 0) ≠ 1 := fun h => by have := bgN_one h; omega
    have hsec := fun W => second_any (bt t 0) W (by omega)
    have Hst := Lib.hid (FAt.start t ht)
    have hge : ¬ bt t 0 < 128 := hc
    obtain ⟨R, hR⟩ : ∃ R, fstT t = R := ⟨_, rfl⟩
    obtain ⟨O, hO⟩ : ∃ O, opnT t = O := ⟨_, rfl⟩
    rw [hR, hO]
    go_enter Tryd.func61, Tryd.ntmps61
    go_wp2_with (go_at_call 76; (with_reducible refine (hsec _).mono ?_); rintro e w1 ⟨rfl, rfl⟩)
    go_loopw [5, 6, 7, 8] (fun lo hi m n wr => ∃ lo' hi' m' n' : Int, lo = .int .u8 lo' ∧ hi = .int .u8 hi' ∧ m = .int .i64 m' ∧ n = .int .i64 n' ∧ FAt t lo' hi' m' n' ∧ Blk wr w.heap.size 32 #[.int .i64 0, .int .i64 0, .int .i32 0, .bool false] ∧ Below w.heap.size w wr) (fun _ _ _ n _ => t.size - (intOf n).toNat)
    case atStart => exact ⟨_, _, _, _, rfl, rfl, rfl, rfl, Hst.out, Blk.new _ _ _, below_one _ _⟩
    case round =>
      clear Hst
      obtain ⟨lo, hi, m, n, rfl, rfl, rfl, rfl, hF, hB, hbel⟩ := hrel
      have h1 := hF.one
      have h2 := hF.size
      have h3 := hF.pos
      have h4 := hF.small
      have hbt := bt_at t n
      have hbr := bt_range t n
      by_cases hgo : 0 < m ∧ n < t.size ∧ lo ≤ bt t n ∧ bt t n ≤ hi
      · obtain ⟨c1, c2, c3, c4⟩ := hgo
        have HN := Lib.hid (hF.next c1 c2 ⟨c3, c4⟩)
        clear hF
        go_wp2
        exact ⟨⟨_, _, _, _, rfl, rfl, rfl, rfl, HN.out, hB, hbel⟩, by simp [intOf]; omega⟩
      · have hr := hF.done ht hcn (fun a b c => hgo ⟨a, b, c.1, c.2⟩)
        have hcase : ¬ 0 < m ∨ (0 < m ∧ ¬ n < t.size) ∨ (0 < m ∧ n < t.size ∧ ¬ lo ≤ bt t n) ∨ (0 < m ∧ n < t.size ∧ lo ≤ bt t n ∧ ¬ bt t n ≤ hi) := by omega
        have hwh := hF.whole hcn hr
        by_cases hw : m = 0 ∧ 1 < n
        · have hq := hwh.1 hw
          have e1 : fstT t = ⟨n, valT t n, false⟩ := by unfold fstT; rw [if_pos hq, hr]
          have e2 : opnT t = false := by unfold opnT; exact decide_eq_false (by omega)
          have hdec := decode_whole t ht hq (by omega)
          have hD := Tryd.utf8_DecodeRuneInString (t.extract 0 n.toNat) wr (Utf8Tabs_below T hbel)
          rw [hr] at hdec
          rw [hdec] at hD
          generalize (Lib.decodeGo (t.extract 0 n.toNat)).2 = K at hD
          have HD := Lib.hid hD
          generalize valT t n = v at *
          have hR' := Lib.hid (hR.symm.trans e1)
          have hO' := Lib.hid (hO.symm.trans e2)
          clear hD hdec e1 e2 hwh hF hgo hcase hq hr hR hO
          have hBb := fun (W : World) (h : Below wr.heap.size wr W) => hB.after h
          obtain ⟨rfl, hn1⟩ := hw
          go_wp2_with (go_at_call 77; (with_reducible refine (HD.out).mono ?_); rintro e w1 ⟨rfl, hb1⟩; have hB1 := hBb w1 hb1; have hbel1 := below_after hbel hb1; (obtain ⟨g0, g1, g2, g3, g4, g5, g6, g7⟩ := Blk.facts hB1))
          exact bodyPost_ret (ret_blk_tmp (ty := 32) rfl _ _ _ _ _ _ rfl ((((hB1.set_ 0 _).set_ 1 _).set_ 2 _).set_ 3 _) Tryd.underlying32 rfl 4 size_pc rfl) rfl ⟨by rw [hR'.out, hO'.out]; rfl, below_set (below_set (below_set (below_set hbel1 (Nat.le_refl _) _) (Nat.le_refl _) _) (Nat.le_refl _) _) (Nat.le_refl _) _⟩
        · have hq : ¬ runT t = bgN (bt t 0) := fun h => hw (hwh.2 h)
          have e1 : fstT t = ⟨n, 65533, true⟩ := by unfold fstT; rw [if_neg hq, hr]
          have e2 := hF.open_ hcn hr hw
          have hR' := Lib.hid (hR.symm.trans e1)
          rw [hO] at e2
          clear e1 hwh hF hgo hq hr hR hO
          obtain ⟨g0, g1, g2, g3, g4, g5, g6, g7⟩ := Blk.facts hB
          by_cases hop : 0 < m ∧ n = t.size
          · rw [decide_eq_true hop] at e2
            obtain ⟨ho1, ho2⟩ := hop
            subst ho2
            have hO' := Lib.hid e2
            clear e2
            rcases hcase with c | ⟨c1, c2⟩ | ⟨c1, c2, c3⟩ | ⟨c1, c2, c3, c4⟩
            · exact absurd ho1 c
            all_goals
              go_wp2 <;> exact bodyPost_ret (ret_blk_tmp (ty := 32) rfl _ _ _ _ _ _ rfl ((((hB.set_ 0 _).set_ 1 _).set_ 2 _).set_ 3 _) Tryd.underlying32 rfl 4 size_pc rfl) rfl ⟨by rw [hR'.out, hO'.out]; rfl, below_set (below_set (below_set (below_set hbel (Nat.le_refl _) _) (Nat.le_refl _) _) (Nat.le_refl _) _) (Nat.le_refl _) _⟩
          · rw [decide_eq_false hop] at e2
            have hO' := Lib.hid e2
            clear e2
            rcases hcase with c | ⟨c1, c2⟩ | ⟨c1, c2, c3⟩ | ⟨c1, c2, c3, c4⟩
            all_goals
              go_wp2 <;> exact bodyPost_ret (ret_blk_tmp (ty := 32) rfl _ _ _ _ _ _ rfl ((((hB.set_ 0 _).set_ 1 _).set_ 2 _).set_ 3 _) Tryd.underlying32 rfl 4 size_pc rfl) rfl ⟨by rw [hR'.out, hO'.out]; first | rfl | (rw [show (n == (t.size : Int)) = false from beq_eq_false_iff_ne.2 (by omega)]; rfl), below_set (below_set (below_set (below_set hbel (Nat.le_refl _) _) (Nat.le_refl _) _) (Nat.le_refl _) _) (Nat.le_refl _) _⟩
end Go.Proofs.YtgippjhkimohlaaDoor
