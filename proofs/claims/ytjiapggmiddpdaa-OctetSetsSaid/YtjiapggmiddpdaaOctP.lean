/- The named sets: the program's and the document's, as the very words. (Written by wip/gen/octp.py.) -/
import Derived.Test.YtjiapggmiddpdaaOctM
set_option linter.unusedVariables false
set_option linter.unusedSimpArgs false
namespace Go.Proofs.Ytjiapggmiddpdaa
open Go.RowKit Go.Proofs.YtjiapggmiddpdaaW.PrintWords Go.Proofs.YtjiapggmiddpdaaW.PrintLast
theorem all256 {p q : Int → Bool} (h : ((List.range 256).all fun n => p (n : Int) == q (n : Int)) = true) : ∀ b, 0 ≤ b → b < 256 → p b = q b := by
  intro b h0 h1
  have := List.all_eq_true.1 h b.toNat (by simp; omega)
  have e : ((b.toNat : Nat) : Int) = b := by omega
  rw [e] at this
  exact beq_iff_eq.1 this
theorem wf_lits {x0 x1 x2 x3 : Int} (h : (decide (0 ≤ x0 ∧ x0 < 18446744073709551616) && decide (0 ≤ x1 ∧ x1 < 18446744073709551616) && decide (0 ≤ x2 ∧ x2 < 18446744073709551616) && decide (0 ≤ x3 ∧ x3 < 18446744073709551616)) = true) : Wf4 x0 x1 x2 x3 := by
  simp only [Bool.and_eq_true, decide_eq_true_eq] at h
  exact ⟨h.1.1.1, h.1.1.2, h.1.2, h.2⟩
/-- the document's set of four words -/
def bl (x : List Int) : List Int := (List.range 256).map fun (n : Nat) => if inSet x (n : Int) = true then 1 else 0
theorem bl_len (x : List Int) : (bl x).length = 256 := by simp [bl]
theorem bl_at (x : List Int) (b : Int) (h0 : 0 ≤ b) (h1 : b < 256) : rd (bl x) b = if inSet x b = true then 1 else 0 := by
  have hb : b.toNat < 256 := by omega
  have e : ((b.toNat : Nat) : Int) = b := by omega
  simp [rd, bl, List.getD_eq_getElem?_getD, List.getElem?_range, hb, e]
theorem bl_is {l x : List Int} {p : Int → Bool} (hl : l.length = 256) (h : ∀ b, 0 ≤ b → b < 256 → rd l b = if p b = true then 1 else 0) (hp : ∀ b, 0 ≤ b → b < 256 → p b = inSet x b) : l = bl x :=
  ext_rd (by rw [hl, bl_len]) fun b h0 h1 => by
    rw [h b h0 (by omega), bl_at x b h0 (by omega), hp b h0 (by omega)]
theorem no256_len : no256.length = 256 := List.length_replicate
theorem no256_at (b : Int) : rd no256 b = 0 := by
  unfold rd no256
  rw [List.getD_eq_getElem?_getD, List.getElem?_replicate]
  split <;> rfl
theorem no256_bl : no256 = bl [0, 0, 0, 0] := bl_is (p := fun _ => false) no256_len (fun b h0 h1 => by rw [no256_at]; rfl) (fun b h0 h1 => (inSet_zero b h0 h1).symm)
theorem rwith_is {x y : List Int} (s : ByteArray) (w : World) (hs : s.size ≤ 9223372036854775807) (h : ∀ b, 0 ≤ b → b < 256 → (inSet x b || inStr s b s.size) = inSet y b) :
    Calls Try.prog 46 #[.agg (nums .u8 (bl x)).toArray, .string s] w fun e w' => e = .returned (.agg (nums .u8 (bl y)).toArray) ∧ Below w.heap.size w w' := by
  refine (rwith_any (bl x) s w (bl_len x) hs).mono ?_
  rintro e w' ⟨l, ⟨h1, h2⟩, rfl, hb⟩
  obtain rfl := bl_is (p := fun b => inSet x b || inStr s b s.size) h1 (fun b h0 h3 => by
    rw [h2 b h0 h3, bl_at x b h0 h3]
    cases inStr s b s.size <;> cases inSet x b <;> rfl) h
  exact ⟨rfl, hb⟩
theorem rfrom_is {x y : List Int} (a z : Int) (w : World) (ha : 0 ≤ a) (ha1 : a ≤ 255) (hz0 : 0 ≤ z) (hz1 : z ≤ 255) (h : ∀ b, 0 ≤ b → b < 256 → (inSet x b || (decide (a ≤ b) && decide (b ≤ z))) = inSet y b) :
    Calls Try.prog 47 #[.agg (nums .u8 (bl x)).toArray, .int .i64 a, .int .i64 z] w fun e w' => e = .returned (.agg (nums .u8 (bl y)).toArray) ∧ Below w.heap.size w w' := by
  refine (rfrom_any (bl x) a z w (bl_len x) ha ha1 hz0 hz1).mono ?_
  rintro e w' ⟨l, ⟨h1, h2⟩, rfl, hb⟩
  obtain rfl := bl_is (p := fun b => inSet x b || (decide (a ≤ b) && decide (b ≤ z))) h1 (fun b h0 h3 => by
    rw [h2 b h0 h3, bl_at x b h0 h3]
    by_cases g : a ≤ b <;> by_cases g' : b ≤ z <;> cases inSet x b <;> simp [g, g']) h
  exact ⟨rfl, hb⟩
theorem with_is {x0 x1 x2 x3 y0 y1 y2 y3 : Int} (s : ByteArray) (w : World) (hx : Wf4 x0 x1 x2 x3) (hy : Wf4 y0 y1 y2 y3) (hs : s.size ≤ 9223372036854775807) (h : ∀ b, 0 ≤ b → b < 256 → (inSet [x0, x1, x2, x3] b || inStr s b s.size) = inSet [y0, y1, y2, y3] b) :
    Calls Try.prog 48 #[set4 x0 x1 x2 x3, .string s] w fun e w' => e = .returned (set4 y0 y1 y2 y3) ∧ Below w.heap.size w w' :=
  (with_any x0 x1 x2 x3 s w hx hs).mono fun _ _ g => such_is hy h g
theorem make_is {y0 y1 y2 y3 : Int} (a z : Int) (g c : Nat) (xs : List Int) (w : World) (ha : 0 ≤ a) (ha1 : a ≤ 255) (hz0 : 0 ≤ z) (hz1 : z ≤ 255) (hr : ∀ x ∈ xs, 0 ≤ x ∧ x ≤ 255) (hl : xs.length ≤ 9223372036854775807)
    (hb : Blk w g 5 (nums .u8 xs).toArray) (hy : Wf4 y0 y1 y2 y3) (h : ∀ b, 0 ≤ b → b < 256 → ((decide (a ≤ b) && decide (b ≤ z)) || inList xs b xs.length) = inSet [y0, y1, y2, y3] b) :
    Calls Try.prog 29 #[.int .u8 a, .int .u8 z, .slice (some ⟨g, 0, none⟩) xs.length c] w fun e w' => e = .returned (set4 y0 y1 y2 y3) ∧ Below w.heap.size w w' :=
  (make_any a z ⟨g, 0, none⟩ c xs w ha ha1 hz0 hz1 (fun k h0 h1 => by
    have hk : k.toNat < xs.length := by omega
    have e : rd xs k = xs[k.toNat] := by simp [rd, List.getD_eq_getElem?_getD, List.getElem?_eq_getElem hk]
    rw [e]; exact hr _ (List.getElem_mem hk)) hl (fun k h0 h1 => by rw [add_plain]; exact blk_num_at hb k h0 h1)).mono fun _ _ g => such_is hy h g
set_option maxRecDepth 100000 in
set_option maxHeartbeats 4000000 in
theorem make_nil (a z : Int) (c : Nat) (w : World) (ha : 0 ≤ a) (ha1 : a ≤ 255) (hz0 : 0 ≤ z) (hz1 : z ≤ 255) :
    Calls Try.prog 29 #[.int .u8 a, .int .u8 z, .slice none 0 c] w (Set4Such (fun y0 y1 y2 y3 => Wf4 y0 y1 y2 y3 ∧ ∀ b, 0 ≤ b → b < 256 → inSet [y0, y1, y2, y3] b = (decide (a ≤ b) && decide (b ≤ z))) w) := by
  go_enter Try.func29, Try.ntmps29
  go_wp2
  go_loopw [8] (fun v wr => ∃ (k y0 y1 y2 y3 : Int), v = .int .i64 k ∧ a ≤ k ∧ k ≤ 256 ∧ (k = a ∨ k ≤ z + 1) ∧ Hid (Wf4 y0 y1 y2 y3 ∧ ∀ b, 0 ≤ b → b < 256 → inSet [y0, y1, y2, y3] b = (decide (a ≤ b) && decide (b < k))) ∧ Below w.heap.size w wr ∧ Blk wr w.heap.size 24 (arr4 0 0 0 0) ∧ Blk wr (w.heap.size + 1) 24 (arr4 y0 y1 y2 y3)) (fun v _ => 256 - (intOf v).toNat)
  case atStart => exact ⟨a, 0, 0, 0, 0, rfl, by omega, by omega, by omega, ⟨wf_zero, fun b h0 h1 => by rw [inSet_zero b h0 h1]; by_cases g : a ≤ b <;> simp [g]⟩, below_alloc (below_one _ _) _, (Blk.new _ _ _).alloc _, Blk.at_new (by simp)⟩
  case round =>
    obtain ⟨k, y0, y1, y2, y3, rfl, hk0, hk1, hk2, hy, hbel, b0, b1⟩ := hrel
    by_cases hlt : k ≤ z
    · go_wp2_with (first
        | (refine wp_load_blk rfl 24 _ rfl (w.heap.size + 1) rfl 24 _ b1 _ Try.underlying24 rfl 4 size_B rfl ?_)
        | (go_at_call 45; refine (put_any y0 y1 y2 y3 k _ hy.out.1 (by omega) (by omega)).mono ?_; rintro e w3 ⟨u0, u1, u2, u3, hu, rfl, hb3⟩; replace hbel := below_after hbel hb3; replace b0 := b0.after hb3; replace b1 := b1.after hb3; have Hu := Lib.hid hu; clear hu)
        | (refine wp_store_blk rfl 24 _ _ rfl rfl (w.heap.size + 1) _ rfl rfl 24 _ b1 4 size_B rfl rfl (nums_one .u64 [u0, u1, u2, u3]) ?_; intro w4 hb4 hg4))
      exact ⟨⟨k + 1, u0, u1, u2, u3, rfl, by omega, by omega, by omega, ⟨Hu.out.1, fun b h0 h1 => by rw [Hu.out.2 b h0 h1, hy.out.2 b h0 h1, inRange_step hk0]⟩, below_grown hbel hg4 (by omega), b0.grown hg4 (by simp), hb4⟩, by simp [intOf]; omega⟩
    · replace hy := Lib.hid (And.intro hy.out.1 (fun (b : Int) (h0 : 0 ≤ b) (h1 : b < 256) => (hy.out.2 b h0 h1).trans (inRange_end (b := b) (z := z) (by omega) hk2)))
      go_wp2
      refine wp_loop_rounds 1 ?_
      rw [rounds_succ]
      go_wp2_with (first | (refine wp_load_blk rfl 24 _ rfl (w.heap.size + 1) rfl 24 _ b1 _ Try.underlying24 rfl 4 size_B rfl ?_) | (refine wp_store_blk rfl 24 _ _ rfl rfl w.heap.size _ rfl rfl 24 _ b0 4 size_B rfl rfl (nums_one .u64 [y0, y1, y2, y3]) ?_; intro w3 hb3 hg3))
      refine bodyPost_ret (ret_blk (ty := 24) rfl _ _ _ _ _ _ rfl hb3 Try.underlying24 rfl 4 size_B rfl) rfl ?_
      exact ⟨y0, y1, y2, y3, hy.out, rfl, below_grown hbel hg3 (by omega)⟩
theorem make_nil_is {y0 y1 y2 y3 : Int} (a z : Int) (w : World) (ha : 0 ≤ a) (ha1 : a ≤ 255) (hz0 : 0 ≤ z) (hz1 : z ≤ 255) (hy : Wf4 y0 y1 y2 y3) (h : ∀ b, 0 ≤ b → b < 256 → (decide (a ≤ b) && decide (b ≤ z)) = inSet [y0, y1, y2, y3] b) :
    Calls Try.prog 29 #[.int .u8 a, .int .u8 z, .slice none 0 0] w fun e w' => e = .returned (set4 y0 y1 y2 y3) ∧ Below w.heap.size w w' :=
  (make_nil a z 0 w ha ha1 hz0 hz1).mono fun _ _ g => such_is hy h g
/-- two results, an array and a number -/
theorem ret_blk2 {P : Program} {fn : Func} {p q : Tmp} {ty : TypeId} (h : fn.results = #[.cell p ty, .tmp q]) (tmps : Array Value) (w : World) (g : Nat) (t : TypeId) (cs : Array Value) (d : TypeDesc) (v : Value)
    (hp : tmps.getD p undef = .pointer (some ⟨g, 0, none⟩)) (hq : tmps.getD q undef = v) (hb : Blk w g t cs) (hu : P.underlying ty = some d) (hd : (match d with | .struct _ | .array _ _ => true | _ => false) = true) (n : Nat) (hi : (P.info? ty).map (·.size) = some n) (hn : cs.size = n) :
    (results fn tmps).run P w = .ok (.tuple #[.agg cs, v]) w := by
  have hp' : tmps[p]?.getD undef = .pointer (some ⟨g, 0, none⟩) := by simpa using hp
  have hq' : tmps[q]?.getD undef = v := by simpa using hq
  simp [results, h, hp', hq', asAddr, run_loadVar_row w g t ty cs (0, 0) d hb hu hd (by rw [hi, hn])]
/-- the words of the named sets -/
def nW (n : Int) : List Int := if n = 1 then [4294967295, 9223372036854775808, 18446744073709551615, 18446744073709551615] else if n = 2 then [5764607548804038655, 9223372041149743104, 18446744073709551615, 18446744073709551615] else if n = 3 then [5764607583163777023, 9223372036854775808, 18446744073709551615, 18446744073709551615] else if n = 4 then [5764608132919590911, 9223372036854775808, 18446744073709551615, 18446744073709551615] else if n = 5 then [14987979620018552831, 12105675803740602368, 18446744073709551615, 18446744073709551615] else if n = 6 then [18158654495175737343, 13258597309286973441, 18446744073709551615, 18446744073709551615] else if n = 7 then [18158681364491141119, 13258597309286973441, 18446744073709551615, 18446744073709551615] else if n = 8 then [18158685221371772927, 17870283327714361345, 18446744073709551615, 18446744073709551615] else if n = 9 then [15276350712183793153, 1152921506620112897, 0, 0] else if n = 10 then [15276350853917704191, 10376293543474888705, 0, 0] else [0, 0, 0, 0]
def nE (n : Int) : Int := if 1 ≤ n ∧ n ≤ 10 then 0 else 10
theorem wf_control : Wf4 4294967295 9223372036854775808 18446744073709551615 18446744073709551615 := wf_lits (by kernel_rfl)
theorem wf_frag : Wf4 5764607548804038655 9223372041149743104 18446744073709551615 18446744073709551615 := wf_lits (by kernel_rfl)
theorem wf_query : Wf4 5764607583163777023 9223372036854775808 18446744073709551615 18446744073709551615 := wf_lits (by kernel_rfl)
theorem wf_squery : Wf4 5764608132919590911 9223372036854775808 18446744073709551615 18446744073709551615 := wf_lits (by kernel_rfl)
theorem wf_path : Wf4 14987979620018552831 12105675803740602368 18446744073709551615 18446744073709551615 := wf_lits (by kernel_rfl)
theorem wf_user : Wf4 18158654495175737343 13258597309286973441 18446744073709551615 18446744073709551615 := wf_lits (by kernel_rfl)
theorem wf_comp : Wf4 18158681364491141119 13258597309286973441 18446744073709551615 18446744073709551615 := wf_lits (by kernel_rfl)
theorem wf_form : Wf4 18158685221371772927 17870283327714361345 18446744073709551615 18446744073709551615 := wf_lits (by kernel_rfl)
theorem wf_host : Wf4 15276350712183793153 1152921506620112897 0 0 := wf_lits (by kernel_rfl)
theorem wf_dom : Wf4 15276350853917704191 10376293543474888705 0 0 := wf_lits (by kernel_rfl)
theorem wf_lo31 : Wf4 4294967295 0 0 0 := wf_lits (by kernel_rfl)
theorem wf_hi : Wf4 0 9223372036854775808 18446744073709551615 18446744073709551615 := wf_lits (by kernel_rfl)
theorem wf_h0 : Wf4 9729 0 0 0 := wf_lits (by kernel_rfl)
theorem wf_d31 : Wf4 141733920767 9223372036854775808 0 0 := wf_lits (by kernel_rfl)
theorem with_query (w : World) : Calls Try.prog 48 #[set4 4294967295 9223372036854775808 18446744073709551615 18446744073709551615, .string ⟨#[32, 34, 35, 60, 62]⟩] w fun e w' => e = .returned (set4 5764607583163777023 9223372036854775808 18446744073709551615 18446744073709551615) ∧ Below w.heap.size w w' := with_is (y0 := 5764607583163777023) (y1 := 9223372036854775808) (y2 := 18446744073709551615) (y3 := 18446744073709551615) _ _ wf_control wf_query (by decide) (all256 (by kernel_rfl))
theorem rwith_query (w : World) : Calls Try.prog 46 #[.agg (nums .u8 (bl [4294967295, 9223372036854775808, 18446744073709551615, 18446744073709551615])).toArray, .string ⟨#[32, 34, 35, 60, 62]⟩] w fun e w' => e = .returned (.agg (nums .u8 (bl [5764607583163777023, 9223372036854775808, 18446744073709551615, 18446744073709551615])).toArray) ∧ Below w.heap.size w w' := rwith_is _ _ (by decide) (all256 (by kernel_rfl))
theorem with_path (w : World) : Calls Try.prog 48 #[set4 5764607583163777023 9223372036854775808 18446744073709551615 18446744073709551615, .string ⟨#[63, 94, 96, 123, 125]⟩] w fun e w' => e = .returned (set4 14987979620018552831 12105675803740602368 18446744073709551615 18446744073709551615) ∧ Below w.heap.size w w' := with_is (y0 := 14987979620018552831) (y1 := 12105675803740602368) (y2 := 18446744073709551615) (y3 := 18446744073709551615) _ _ wf_query wf_path (by decide) (all256 (by kernel_rfl))
theorem rwith_path (w : World) : Calls Try.prog 46 #[.agg (nums .u8 (bl [5764607583163777023, 9223372036854775808, 18446744073709551615, 18446744073709551615])).toArray, .string ⟨#[63, 94, 96, 123, 125]⟩] w fun e w' => e = .returned (.agg (nums .u8 (bl [14987979620018552831, 12105675803740602368, 18446744073709551615, 18446744073709551615])).toArray) ∧ Below w.heap.size w w' := rwith_is _ _ (by decide) (all256 (by kernel_rfl))
theorem with_user (w : World) : Calls Try.prog 48 #[set4 14987979620018552831 12105675803740602368 18446744073709551615 18446744073709551615, .string ⟨#[47, 58, 59, 61, 64, 91, 92, 93, 124]⟩] w fun e w' => e = .returned (set4 18158654495175737343 13258597309286973441 18446744073709551615 18446744073709551615) ∧ Below w.heap.size w w' := with_is (y0 := 18158654495175737343) (y1 := 13258597309286973441) (y2 := 18446744073709551615) (y3 := 18446744073709551615) _ _ wf_path wf_user (by decide) (all256 (by kernel_rfl))
theorem rwith_user (w : World) : Calls Try.prog 46 #[.agg (nums .u8 (bl [14987979620018552831, 12105675803740602368, 18446744073709551615, 18446744073709551615])).toArray, .string ⟨#[47, 58, 59, 61, 64, 91, 92, 93, 124]⟩] w fun e w' => e = .returned (.agg (nums .u8 (bl [18158654495175737343, 13258597309286973441, 18446744073709551615, 18446744073709551615])).toArray) ∧ Below w.heap.size w w' := rwith_is _ _ (by decide) (all256 (by kernel_rfl))
theorem with_comp (w : World) : Calls Try.prog 48 #[set4 18158654495175737343 13258597309286973441 18446744073709551615 18446744073709551615, .string ⟨#[36, 37, 38, 43, 44]⟩] w fun e w' => e = .returned (set4 18158681364491141119 13258597309286973441 18446744073709551615 18446744073709551615) ∧ Below w.heap.size w w' := with_is (y0 := 18158681364491141119) (y1 := 13258597309286973441) (y2 := 18446744073709551615) (y3 := 18446744073709551615) _ _ wf_user wf_comp (by decide) (all256 (by kernel_rfl))
theorem rwith_comp (w : World) : Calls Try.prog 46 #[.agg (nums .u8 (bl [18158654495175737343, 13258597309286973441, 18446744073709551615, 18446744073709551615])).toArray, .string ⟨#[36, 37, 38, 43, 44]⟩] w fun e w' => e = .returned (.agg (nums .u8 (bl [18158681364491141119, 13258597309286973441, 18446744073709551615, 18446744073709551615])).toArray) ∧ Below w.heap.size w w' := rwith_is _ _ (by decide) (all256 (by kernel_rfl))
theorem with_frag (w : World) : Calls Try.prog 48 #[set4 4294967295 9223372036854775808 18446744073709551615 18446744073709551615, .string ⟨#[32, 34, 60, 62, 96]⟩] w fun e w' => e = .returned (set4 5764607548804038655 9223372041149743104 18446744073709551615 18446744073709551615) ∧ Below w.heap.size w w' := with_is (y0 := 5764607548804038655) (y1 := 9223372041149743104) (y2 := 18446744073709551615) (y3 := 18446744073709551615) _ _ wf_control wf_frag (by decide) (all256 (by kernel_rfl))
theorem rwith_frag (w : World) : Calls Try.prog 46 #[.agg (nums .u8 (bl [4294967295, 9223372036854775808, 18446744073709551615, 18446744073709551615])).toArray, .string ⟨#[32, 34, 60, 62, 96]⟩] w fun e w' => e = .returned (.agg (nums .u8 (bl [5764607548804038655, 9223372041149743104, 18446744073709551615, 18446744073709551615])).toArray) ∧ Below w.heap.size w w' := rwith_is _ _ (by decide) (all256 (by kernel_rfl))
theorem with_squery (w : World) : Calls Try.prog 48 #[set4 5764607583163777023 9223372036854775808 18446744073709551615 18446744073709551615, .string ⟨#[39]⟩] w fun e w' => e = .returned (set4 5764608132919590911 9223372036854775808 18446744073709551615 18446744073709551615) ∧ Below w.heap.size w w' := with_is (y0 := 5764608132919590911) (y1 := 9223372036854775808) (y2 := 18446744073709551615) (y3 := 18446744073709551615) _ _ wf_query wf_squery (by decide) (all256 (by kernel_rfl))
theorem rwith_squery (w : World) : Calls Try.prog 46 #[.agg (nums .u8 (bl [5764607583163777023, 9223372036854775808, 18446744073709551615, 18446744073709551615])).toArray, .string ⟨#[39]⟩] w fun e w' => e = .returned (.agg (nums .u8 (bl [5764608132919590911, 9223372036854775808, 18446744073709551615, 18446744073709551615])).toArray) ∧ Below w.heap.size w w' := rwith_is _ _ (by decide) (all256 (by kernel_rfl))
theorem with_form (w : World) : Calls Try.prog 48 #[set4 18158681364491141119 13258597309286973441 18446744073709551615 18446744073709551615, .string ⟨#[33, 39, 40, 41, 126]⟩] w fun e w' => e = .returned (set4 18158685221371772927 17870283327714361345 18446744073709551615 18446744073709551615) ∧ Below w.heap.size w w' := with_is (y0 := 18158685221371772927) (y1 := 17870283327714361345) (y2 := 18446744073709551615) (y3 := 18446744073709551615) _ _ wf_comp wf_form (by decide) (all256 (by kernel_rfl))
theorem rwith_form (w : World) : Calls Try.prog 46 #[.agg (nums .u8 (bl [18158681364491141119, 13258597309286973441, 18446744073709551615, 18446744073709551615])).toArray, .string ⟨#[33, 39, 40, 41, 126]⟩] w fun e w' => e = .returned (.agg (nums .u8 (bl [18158685221371772927, 17870283327714361345, 18446744073709551615, 18446744073709551615])).toArray) ∧ Below w.heap.size w w' := rwith_is _ _ (by decide) (all256 (by kernel_rfl))
theorem with_host (w : World) : Calls Try.prog 48 #[set4 9729 0 0 0, .string ⟨#[32, 35, 47, 58, 60, 62, 63, 64, 91, 92, 93, 94, 124]⟩] w fun e w' => e = .returned (set4 15276350712183793153 1152921506620112897 0 0) ∧ Below w.heap.size w w' := with_is (y0 := 15276350712183793153) (y1 := 1152921506620112897) (y2 := 0) (y3 := 0) _ _ wf_h0 wf_host (by decide) (all256 (by kernel_rfl))
theorem make_lo31 (w : World) : Calls Try.prog 29 #[.int .u8 0, .int .u8 31, .slice none 0 0] w fun e w' => e = .returned (set4 4294967295 0 0 0) ∧ Below w.heap.size w w' := make_nil_is 0 31 w (by omega) (by omega) (by omega) (by omega) wf_lo31 (all256 (by kernel_rfl))
theorem make_hi (w : World) : Calls Try.prog 29 #[.int .u8 127, .int .u8 255, .slice none 0 0] w fun e w' => e = .returned (set4 0 9223372036854775808 18446744073709551615 18446744073709551615) ∧ Below w.heap.size w w' := make_nil_is 127 255 w (by omega) (by omega) (by omega) (by omega) wf_hi (all256 (by kernel_rfl))
theorem make_h0 {g : Nat} {w : World} (hb : Blk w g 5 (nums .u8 [9, 10, 13]).toArray) : Calls Try.prog 29 #[.int .u8 0, .int .u8 0, .slice (some ⟨g, 0, none⟩) 3 3] w fun e w' => e = .returned (set4 9729 0 0 0) ∧ Below w.heap.size w w' := make_is 0 0 g 3 [9, 10, 13] w (by omega) (by omega) (by omega) (by omega) (by simp) (by simp) hb wf_h0 (all256 (by kernel_rfl))
theorem make_d31 {g : Nat} {w : World} (hb : Blk w g 5 (nums .u8 [37, 127]).toArray) : Calls Try.prog 29 #[.int .u8 0, .int .u8 31, .slice (some ⟨g, 0, none⟩) 2 2] w fun e w' => e = .returned (set4 141733920767 9223372036854775808 0 0) ∧ Below w.heap.size w w' := make_is 0 31 g 2 [37, 127] w (by omega) (by omega) (by omega) (by omega) (by simp) (by simp) hb wf_d31 (all256 (by kernel_rfl))
theorem union_control {g : Nat} {w : World} (hb : Blk w g 24 (nums .u64 [4294967295, 0, 0, 0, 0, 9223372036854775808, 18446744073709551615, 18446744073709551615]).toArray) : Calls Try.prog 26 #[.slice (some ⟨g, 0, none⟩) 2 2] w fun e w' => e = .returned (set4 4294967295 9223372036854775808 18446744073709551615 18446744073709551615) ∧ Below w.heap.size w w' := (union_two wf_lo31 wf_hi hb).mono fun _ _ h => such_is wf_control (all256 (by kernel_rfl)) h
theorem union_dom {g : Nat} {w : World} (hb : Blk w g 24 (nums .u64 [15276350712183793153, 1152921506620112897, 0, 0, 141733920767, 9223372036854775808, 0, 0]).toArray) : Calls Try.prog 26 #[.slice (some ⟨g, 0, none⟩) 2 2] w fun e w' => e = .returned (set4 15276350853917704191 10376293543474888705 0 0) ∧ Below w.heap.size w w' := (union_two wf_host wf_d31 hb).mono fun _ _ h => such_is wf_dom (all256 (by kernel_rfl)) h
theorem rwith_host (w : World) : Calls Try.prog 46 #[.agg (nums .u8 (bl [0, 0, 0, 0])).toArray, .string ⟨#[0, 9, 10, 13, 32, 35, 47, 58, 60, 62, 63, 64, 91, 92, 93, 94, 124]⟩] w fun e w' => e = .returned (.agg (nums .u8 (bl [15276350712183793153, 1152921506620112897, 0, 0])).toArray) ∧ Below w.heap.size w w' := rwith_is _ _ (by decide) (all256 (by kernel_rfl))
theorem rwith_dom (w : World) : Calls Try.prog 46 #[.agg (nums .u8 (bl [15276350716478750719, 1152921506620112897, 0, 0])).toArray, .string ⟨#[37, 127]⟩] w fun e w' => e = .returned (.agg (nums .u8 (bl [15276350853917704191, 10376293543474888705, 0, 0])).toArray) ∧ Below w.heap.size w w' := rwith_is _ _ (by decide) (all256 (by kernel_rfl))
theorem rfrom_lo31 (w : World) : Calls Try.prog 47 #[.agg (nums .u8 (bl [0, 0, 0, 0])).toArray, .int .i64 0, .int .i64 31] w fun e w' => e = .returned (.agg (nums .u8 (bl [4294967295, 0, 0, 0])).toArray) ∧ Below w.heap.size w w' := rfrom_is _ _ _ (by omega) (by omega) (by omega) (by omega) (all256 (by kernel_rfl))
theorem rfrom_control (w : World) : Calls Try.prog 47 #[.agg (nums .u8 (bl [4294967295, 0, 0, 0])).toArray, .int .i64 127, .int .i64 255] w fun e w' => e = .returned (.agg (nums .u8 (bl [4294967295, 9223372036854775808, 18446744073709551615, 18446744073709551615])).toArray) ∧ Below w.heap.size w w' := rfrom_is _ _ _ (by omega) (by omega) (by omega) (by omega) (all256 (by kernel_rfl))
theorem rfrom_h31 (w : World) : Calls Try.prog 47 #[.agg (nums .u8 (bl [15276350712183793153, 1152921506620112897, 0, 0])).toArray, .int .i64 0, .int .i64 31] w fun e w' => e = .returned (.agg (nums .u8 (bl [15276350716478750719, 1152921506620112897, 0, 0])).toArray) ∧ Below w.heap.size w w' := rfrom_is _ _ _ (by omega) (by omega) (by omega) (by omega) (all256 (by kernel_rfl))
theorem rfrom_lo31z (w : World) : Calls Try.prog 47 #[.agg (nums .u8 no256).toArray, .int .i64 0, .int .i64 31] w fun e w' => e = .returned (.agg (nums .u8 (bl [4294967295, 0, 0, 0])).toArray) ∧ Below w.heap.size w w' := by rw [no256_bl]; exact rfrom_lo31 w
theorem rwith_hostz (w : World) : Calls Try.prog 46 #[.agg (nums .u8 no256).toArray, .string ⟨#[0, 9, 10, 13, 32, 35, 47, 58, 60, 62, 63, 64, 91, 92, 93, 94, 124]⟩] w fun e w' => e = .returned (.agg (nums .u8 (bl [15276350712183793153, 1152921506620112897, 0, 0])).toArray) ∧ Below w.heap.size w w' := by rw [no256_bl]; exact rwith_host w
end Go.Proofs.Ytjiapggmiddpdaa
