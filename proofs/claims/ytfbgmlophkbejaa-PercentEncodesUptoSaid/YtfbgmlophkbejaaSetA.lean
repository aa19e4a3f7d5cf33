/- Sets that are asked, the document's sets, digits of a byte (of the seats whose dump lacks the rest of package octet). -/
import Derived.Test.YtfbgmlophkbejaaDigA
import Derived.Test.YtfbgmlophkbejaaBase2
import Derived.Test.YtfbgmlophkbejaaBase3
set_option linter.unusedVariables false
set_option linter.unusedSimpArgs false
namespace Go.Proofs.Ytfbgmlophkbejaa
open Go.RowKit Go.Proofs.YtfbgmlophkbejaaW.PrintWords Go.Proofs.YtfbgmlophkbejaaW.PrintLast
section
variable {P : Program} {ops : Array Oper} {oi : Oper} {a : Act} {w : World} {K : Act → World → Prop} {Q : Exit → Act → World → Prop}
theorem alloc_ {N : Option Tmp} {cells : Array Value} {t : TypeId} (hw : Region.wanted oi (yielded ops a.tmps) = true) (hN : oi.dst = N) (hrun : (execOp a.eval oi).run P w = .ok (.value (.pointer (some ⟨w.heap.size, 0, none⟩))) (w.alloc (.cells cells t)))
    (h : ∀ (g : Nat) (w1 : World), w.heap.size = g → Blk w1 g t cells → Below w.heap.size w w1 → K (a.put N (.pointer (some ⟨g, 0, none⟩))) w1) : if Region.wanted oi (yielded ops a.tmps) = true then Oper.wp P oi a w K Q else K (a.put N undef) w :=
  value_ hw hN hrun (h _ _ rfl (Blk.new _ _ _) (below_one _ _))
theorem store_ (hw : Region.wanted oi (yielded ops a.tmps) = true) (hN : oi.dst = none) (ty : TypeId) (x y : Operand) (ho : oi.op = .store ty x y) (g : Nat) (cells : Array Value) (hx : a.eval x = .pointer (some ⟨g, 0, none⟩)) (hy : a.eval y = .agg cells)
    (t : TypeId) (old : Array Value) (hb : Blk w g t old) (n : Nat) (hi : (P.info? ty).map (·.size) = some n) (hn : cells.size = n) (hold : old.size = n) (h1 : cells.all (·.oneCell') = true)
    (h : ∀ w', Blk w' g t cells → w.grownBy w' (some g) → K a w') : if Region.wanted oi (yielded ops a.tmps) = true then Oper.wp P oi a w K Q else K (a.put none undef) w := by
  refine skip_ (w1 := w.setRow g cells) hw hN ?_ (h _ (blk_setRow hb) (grown_setRow _ _ _))
  unfold execOp
  simp only [ho, hx, hy, Instr.storeAt, Instr.sureAddr, Sem.run_bind, Sem.run_pure, Result.andThen_ok, run_storeVar_row w g t ty old cells hb (by rw [hi, hn]) (by rw [hold, hn]) h1]
theorem lits_ {N : Option Tmp} (hw : Region.wanted oi (yielded ops a.tmps) = true) (hN : oi.dst = N) (t e : TypeId) (len : Nat) (parts : Array (Nat × Operand)) (ho : oi.op = .buildSlice t len parts)
    (cells : Array Value) (ie : TypeInfo) (z : Value)
    (hu : P.underlying t = some (.slice e)) (hie : P.info? e = some ie) (hz : ie.zero = some z) (hsmall : ¬ len * ie.size > 2 ^ 24) (hpos : ¬ len * ie.size = 0)
    (hf : Instr.fill (fun i => some (i * ie.size, ie.size)) ((Array.range (len * ie.size)).map (z.cells[· % z.cells.size]!)) (parts.map fun (i, x) => (i, a.eval x)).toList = some cells)
    (h : ∀ (g : Nat) (w1 : World), w.heap.size = g → Blk w1 g e cells → Below w.heap.size w w1 → K (a.put N (.slice (some ⟨g, 0, none⟩) len len)) w1) : if Region.wanted oi (yielded ops a.tmps) = true then Oper.wp P oi a w K Q else K (a.put N undef) w := by
  rw [if_pos hw]
  subst hN
  exact wp_buildSlice t e len parts ho cells ie z hu hie hz hsmall hpos hf (h _ _ rfl (Blk.new _ _ _) (below_one _ _))
end
/-- is byte b in the set of four words? -/
def inSet (l : List Int) (b : Int) : Bool := bits BinOp.and IntKind.u64 (rd l (b / 64) / 2 ^ (b % 64).toNat) 1 == 1

set_option maxHeartbeats 400000 in
theorem has_any (x0 x1 x2 x3 b : Int) (w : World) (hb0 : 0 ≤ b) (hb1 : b ≤ 255) :
    Calls Try.prog 32 #[set4 x0 x1 x2 x3, .int .u8 b] w fun e w' => e = .returned (.bool (inSet [x0, x1, x2, x3] b)) ∧ Below w.heap.size w w' := by
  have hc := four_at x0 x1 x2 x3 (b / 64) (by omega) (by omega)
  go_enter Try.func32, Try.ntmps32
  go_wp2
  go_ret
  exact ⟨rfl, below_one _ _⟩

/-- the empty set of 256 bytes -/
def no256 : List Int := List.replicate 256 0
theorem info_S : (Try.prog.info? 44).map (fun i => (i.zero, i.size)) = some (some (.agg (nums .u8 no256).toArray), 256) := by kernel_rfl
theorem size_S : (Try.prog.info? 44).map (·.size) = some 256 := (zero_of_info info_S).2
theorem zero_S (w : World) : (zeroValue 44).run Try.prog w = .ok (.agg (nums .u8 no256).toArray) w := (zero_of_info info_S).1 w
theorem built_S : Try.prog.built 44 [] = some (nums .u8 no256).toArray := by kernel_rfl
def bit4 (x0 x1 x2 x3 i : Int) : Int := bits BinOp.and IntKind.u64 (rd [x0, x1, x2, x3] (i / 64) / 2 ^ (i % 64).toNat) 1
theorem and1_01 (x : Int) : bits BinOp.and IntKind.u64 x 1 = 0 ∨ bits BinOp.and IntKind.u64 x 1 = 1 := by
  have h : (BitVec.ofInt 64 x &&& BitVec.ofInt 64 1).toNat = (BitVec.ofInt 64 x).toNat % 2 := by
    rw [BitVec.toNat_and, show (BitVec.ofInt 64 1).toNat = 1 from rfl, Nat.and_one_is_mod]
  have e : bits BinOp.and IntKind.u64 x 1 = IntKind.u64.wrap (((BitVec.ofInt 64 x).toNat % 2 : Nat) : Int) := by
    rw [← h]; rfl
  rw [e, IntKind.wrap_u64]
  omega
def IsUnw (x0 x1 x2 x3 : Int) (l : List Int) : Prop := l.length = 256 ∧ ∀ i, 0 ≤ i → i < 256 → rd l i = bit4 x0 x1 x2 x3 i
set_option maxRecDepth 100000 in
set_option maxHeartbeats 1000000 in
theorem unwords_any (x0 x1 x2 x3 : Int) (w : World) :
    Calls Try.prog 19 #[set4 x0 x1 x2 x3] w (ListSuch .u8 (IsUnw x0 x1 x2 x3) w) := by
  have hz := zero_S
  go_enter Try.func19, Try.ntmps19
  go_upto_region 1 with (fail)
  go_wp2_with (first | (refine wp_build_nil rfl 44 rfl 5 rfl _ built_S ?_) | (refine wp_store_blk rfl 44 _ _ rfl rfl (w.heap.size + 1 + 1) _ rfl rfl 44 _ (Blk.at_new (by simp)) 256 size_S rfl rfl (nums_one _ _) ?_; intro w2 hb2 hg2))
  have b0 : Blk w2 w.heap.size 41 (arr4 x0 x1 x2 x3) := (((Blk.new _ _ _).alloc _).alloc _).grown hg2 (by simp <;> omega)
  have b1 : Blk w2 (w.heap.size + 1) 44 (nums .u8 no256).toArray := ((Blk.at_new (by simp)).alloc _).grown hg2 (by simp <;> omega)
  have hbel : Below w.heap.size w w2 := below_grown (below_alloc (below_alloc (below_one _ _) _) _) hg2 (by omega)
  clear hg2 hz
  go_loopw [4] (fun v wr => ∃ (k : Int) (l : List Int), v = .int .i64 k ∧ 0 ≤ k ∧ k ≤ 256 ∧ l.length = 256 ∧ Hid (∀ i, 0 ≤ i → i < k → rd l i = bit4 x0 x1 x2 x3 i) ∧ Below w.heap.size w wr ∧ Blk wr w.heap.size 41 (arr4 x0 x1 x2 x3) ∧ Blk wr (w.heap.size + 1) 44 (nums .u8 no256).toArray ∧ Blk wr (w.heap.size + 1 + 1) 44 (nums .u8 l).toArray) (fun v _ => 256 - (intOf v).toNat)
  case atStart => exact ⟨0, no256, rfl, by omega, by omega, rfl, fun i h0 h1 => by omega, hbel, b0, b1, hb2⟩
  case round =>
    obtain ⟨k, l, rfl, hk0, hk1, hl, hall, hbel, b0, b1, b2⟩ := hrel
    by_cases hlt : k < 256
    · have c0 := blk4_at b0 (k / 64) (by omega) (by omega)
      have c1 := blk_num_at b2 k hk0 (by omega)
      have c2 := b2.frozen k.toNat
      go_wp2
      refine ⟨⟨k + 1, l.set k.toNat _, rfl, by omega, by omega, by rw [List.length_set, hl], fun i h0 h1 => ?_, below_set hbel (by simp <;> omega) _, b0.far (by simp <;> omega) _, b1.far (by simp <;> omega) _, blk_num_set b2 _ _⟩, by simp [intOf]; omega⟩
      rw [rd_set l k i _ hk0 (by omega) h0]
      by_cases h : i = k
      · subst h
        rw [if_pos rfl]
        have := and1_01 (rd [x0, x1, x2, x3] (i / 64) / 2 ^ (i % 64).toNat)
        unfold bit4
        omega
      · rw [if_neg h]; exact hall.out i h0 (by omega)
    · obtain rfl : k = 256 := by omega
      go_wp2_with (first | (refine wp_load_blk rfl 44 _ rfl (w.heap.size + 1 + 1) rfl 44 _ b2 _ Try.underlying44 rfl 256 size_S (by rw [nums_size, hl]) ?_) | (refine wp_store_blk rfl 44 _ _ rfl rfl (w.heap.size + 1) _ rfl rfl 44 _ b1 256 size_S (by rw [nums_size, hl]) rfl (nums_one _ _) ?_; intro w3 hb3 hg3))
      refine bodyPost_ret (ret_blk (ty := 44) rfl _ _ _ _ _ _ rfl hb3 Try.underlying44 rfl 256 size_S (by rw [nums_size, hl])) rfl ?_
      exact ⟨l, ⟨hl, hall.out⟩, rfl, below_grown hbel hg3 (by omega)⟩
/- The document's Find, its set any array of 256 bytes. -/
def lowb (b : Int) : Int := if 65 ≤ b ∧ b ≤ 90 then b + 32 else b
def uppb (b : Int) : Int := if 97 ≤ b ∧ b ≤ 122 then b - 32 else b
def uppS (s : ByteArray) : ByteArray := strOfNums ((bytesOf s).map uppb)
theorem rd_map (f : Int → Int) (l : List Int) (i : Int) (h0 : 0 ≤ i) (h1 : i < l.length) : rd (l.map f) i = f (rd l i) := by
  have h : i.toNat < l.length := by omega
  simp [rd, List.getD_eq_getElem?_getD, List.getElem?_eq_getElem h]

theorem cls_and_Upper (b : Int) (h0 : 0 ≤ b) (h1 : b ≤ 255) : (bits BinOp.and IntKind.i64 (cls b) 4 != 0) = decide (97 ≤ b ∧ b ≤ 122) := by
  rcases byte_ranges b h0 h1 with h | h | h | h | h | h | h | h | h | h | h | h | h
  all_goals
    obtain ⟨g0, g1⟩ := h
    unfold cls
    repeat (first | rw [if_pos (by omega)] | rw [if_neg (by omega)])
    first
      | (rw [decide_eq_true (by omega)]; decide)
      | (rw [decide_eq_false (by omega)]; decide)
theorem Upper1_any (b : Int) (w : World) (h0 : 0 ≤ b) (h1 : b ≤ 255) (hr : 97 ≤ b ∧ b ≤ 122) : Calls Try.prog 49 #[.int .u8 b] w fun e w' => e = .returned (.int .u8 (uppb b)) ∧ w = w' := by
  obtain ⟨r0, r1⟩ := hr
  go_enter Try.func49, Try.ntmps49
  go_wp2
  go_ret
  refine ⟨ret_int ?_, rfl⟩
  unfold uppb
  rw [if_pos ⟨r0, r1⟩]
  all_goals omega
set_option maxHeartbeats 2000000 in
theorem eachUpper_any (s : ByteArray) (w : World) (hs : s.size ≤ 140737488351232) :
    Calls Try.prog 48 #[.string s, .int .i64 4, .func (.func 49) #[] #[]] w fun e w' => e = .returned (.string (uppS s)) ∧ Below w.heap.size w w' := by
  have kb := fun W => print_bytes (P := Try.prog) 9 49 5 Try.underlying9 Try.underlying49 Try.underlying5 s W
  go_enter Try.func48, Try.ntmps48
  go_wp2
  have hb0 : Byt (Lib.bytesWorld w 5 s) w.heap.size (bytesOf s) := Byt.new w 5 s
  have hl0 := bytesOf_length s
  have hbel0 : Below w.heap.size w (Lib.bytesWorld w 5 s) := bytes_below (Below.refl _ _) (Nat.le_refl _) _ _
  clear kb
  generalize Lib.bytesWorld w 5 s = w1 at *
  go_loopw [14] (fun v wr => ∃ (k : Int) (xs : List Int), v = .int .i64 k ∧ 0 ≤ k ∧ k ≤ s.size ∧ xs.length = s.size ∧ Hid (∀ i, 0 ≤ i → i < k → rd xs i = uppb (bt s i)) ∧ Hid (∀ i, k ≤ i → i < s.size → rd xs i = bt s i) ∧ Below w.heap.size w wr ∧ Byt wr w.heap.size xs) (fun v _ => s.size - (intOf v).toNat)
  case atStart => exact ⟨0, bytesOf s, rfl, by omega, by omega, hl0, fun i h0 h1 => by omega, fun i h0 h1 => rd_bytesOf s i, hbel0, hb0⟩
  case round =>
    obtain ⟨k, xs, rfl, hk0, hk1, hl, hd, hr, hbel, hb⟩ := hrel
    by_cases hlt : k < s.size
    · have c0 := hb.cell k hk0 (by omega)
      have c1 := hb.frozen k hk0 (by omega)
      rw [hr.out k (by omega) hlt] at c0
      have hbr := bt_range s k
      have hcl := cls_and_Upper (bt s k) hbr.1 hbr.2
      by_cases hq : 97 ≤ bt s k ∧ bt s k ≤ 122
      · rw [decide_eq_true hq] at hcl
        go_wp2_with (first
          | (go_at_call 43; refine (class_any _ _ hbr.1 hbr.2).mono ?_; rintro e w' ⟨rfl, rfl⟩)
          | (go_at_call 49; refine (Upper1_any _ _ hbr.1 hbr.2 hq).mono ?_; rintro e w' ⟨rfl, rfl⟩))
        refine ⟨⟨k + 1, xs.set k.toNat _, rfl, by omega, by omega, by rw [List.length_set, hl], fun i h0 h1 => ?_, fun i h0 h1 => ?_, below_set hbel (Nat.le_refl _) _, hb.set_ k hk0 (by omega) _⟩, by simp [intOf]; omega⟩
        · rw [rd_set xs k i _ hk0 (by omega) h0]
          by_cases h : i = k
          · rw [if_pos h, h]
          · rw [if_neg h]; exact hd.out i h0 (by omega)
        · rw [rd_set xs k i _ hk0 (by omega) (by omega), if_neg (by omega)]
          exact hr.out i (by omega) h1
      · rw [decide_eq_false hq] at hcl
        go_wp2_with (first
          | (go_at_call 43; refine (class_any _ _ hbr.1 hbr.2).mono ?_; rintro e w' ⟨rfl, rfl⟩))
        refine ⟨⟨k + 1, xs, rfl, by omega, by omega, hl, fun i h0 h1 => ?_, fun i h0 h1 => hr.out i (by omega) h1, hbel, hb⟩, by simp [intOf]; omega⟩
        by_cases h : i = k
        · rw [h, hr.out k (by omega) hlt]
          unfold uppb
          rw [if_neg hq]
        · exact hd.out i h0 (by omega)
    · obtain rfl : k = s.size := by omega
      have ht := fun cap => hb.text (P := Try.prog) Try.underlying49 Try.underlying5 Try.underlying9 cap
      rw [hl] at ht
      have hx : xs = (bytesOf s).map uppb := ext_rd (by rw [List.length_map, hl, hl0]) fun i h0 h1 => by
        rw [rd_map _ _ _ h0 (by omega), rd_bytesOf]; exact hd.out i h0 (by omega)
      go_wp2
      go_ret
      exact ⟨rfl, hbel⟩
theorem Upper_any (s : ByteArray) (w : World) (hs : s.size ≤ 140737488351232) : Calls Try.prog 46 #[.string s] w fun e w' => e = .returned (.string (uppS s)) ∧ Below w.heap.size w w' := by
  go_enter Try.func46, Try.ntmps46
  go_wp2_with (go_at_call 48; refine (eachUpper_any s _ hs).mono ?_; rintro e w' ⟨rfl, hb⟩)
  go_ret
  exact ⟨rfl, hb⟩
theorem info_u8h : (Try.prog.info? 5).map (fun i => (i.size, i.zero)) = some (1, some (.int .u8 0)) := by kernel_rfl
theorem fillh2 (x y : Int) : Instr.fill (fun i => some (i * 1, 1)) ((Array.range (2 * 1)).map ((Value.int .u8 0).cells[· % (Value.int .u8 0).cells.size]!)) [(0, .int .u8 x), (1, .int .u8 y)] = some (#[.int .u8 x, .int .u8 y] : Array Value) := by kernel_rfl
theorem litv2_ {ops : Array Oper} {oi : Oper} {a : Act} {w : World} {K : Act → World → Prop} {Q : Exit → Act → World → Prop} {N : Option Tmp} (hw : Region.wanted oi (yielded ops a.tmps) = true) (hN : oi.dst = N) (u v : Operand) (x y : Int) (ho : oi.op = .buildSlice 49 2 #[(0, u), (1, v)]) (hu : a.eval u = .int .u8 x) (hv : a.eval v = .int .u8 y)
    (h : ∀ (g : Nat) (w1 : World), Blk w1 g 5 (nums .u8 [x, y]).toArray → Below w.heap.size w w1 → K (a.put N (.slice (some ⟨g, 0, none⟩) 2 2)) w1) : if Region.wanted oi (yielded ops a.tmps) = true then Oper.wp Try.prog oi a w K Q else K (a.put N undef) w := by
  obtain ⟨ie, h1, h2⟩ := Option.map_eq_some_iff.1 info_u8h
  injection h2 with h3 h4
  refine lits_ hw hN 49 5 2 _ ho _ ie _ Try.underlying49 h1 h4 (by rw [h3]; omega) (by rw [h3]; omega) (by
    rw [h3]; simp only [List.map_toArray, List.map_cons, List.map_nil, hu, hv]; exact fillh2 ..) (fun g w1 _ hb hl => h g w1 hb hl)
theorem exec_text2 {P : Program} {o : Oper} {a : Act} {w : World} {src dst e : TypeId} {x : Operand} {A : Option Addr} {c : Nat} {xs : List Int} (ho : o.op = .convert src dst x) (hx : a.eval x = .slice A xs.length c)
    (hs : P.underlying src = some (.slice e)) (he : P.underlying e = some (.int .u8)) (hd : P.underlying dst = some .string) (hR : ReadsInt w .u8 A xs.length xs) : (execOp a.eval o).run P w = .ok (.value (.string (strOfNums xs))) w := by
  have h := string_of_reads (c := c) hs he hd hR
  unfold execOp
  simp only [ho, hx, Sem.run_bind, h, Result.andThen_ok]
  rfl
theorem reads_blk {w : World} {g : Nat} {t : TypeId} {xs : List Int} (hb : Blk w g t (nums .u8 xs).toArray) (hl : xs.length ≤ 9223372036854775807) : ReadsInt w .u8 (some ⟨g, 0, none⟩) xs.length xs := ⟨rfl, hl, fun _ => ⟨_, rfl, fun j hj => by
  rw [add_plain]
  have := blk_num_at hb (j : Int) (by omega) (by omega)
  simpa [rd] using this⟩⟩
def hexS (b : Int) : ByteArray := strOfNums [bt upT (b / 16), bt upT (b % 16)]
theorem and15 (b : Int) (h0 : 0 ≤ b) (h1 : b < 256) : bits BinOp.and IntKind.u8 b 15 = b % 16 := each256 (p := fun b => bits BinOp.and IntKind.u8 b 15) (q := fun b => b % 16) (by kernel_rfl) b h0 h1
theorem upp_hex (b : Int) (h0 : 0 ≤ b) (h1 : b < 256) : uppS (strOfNums [bt lowT (b / 16), bt lowT (b % 16)]) = hexS b := by
  have h := each256 (p := fun b => (uppS (strOfNums [bt lowT (b / 16), bt lowT (b % 16)])).data.toList) (q := fun b => (hexS b).data.toList) (by kernel_rfl) b h0 h1
  exact ByteArray.ext (Array.toList_inj.1 h)
set_option maxRecDepth 100000 in
set_option maxHeartbeats 4000000 in
theorem hex_any (b : Int) (w : World) (h0 : 0 ≤ b) (h1 : b ≤ 255) : Calls Try.prog 42 #[.int .u8 b] w fun e w' => e = .returned (.string (hexS b)) ∧ Below w.heap.size w w' := by
  have e15 := and15 b h0 (by omega)
  have k0 : 0 ≤ b / 16 := by omega
  have k1 : b / 16 < 16 := by omega
  have k2 : 0 ≤ b % 16 := by omega
  have k3 : b % 16 < 16 := by omega
  have k4 : b / 16 < 36 := by omega
  have k5 : b % 16 < 36 := by omega
  have l1 : ∀ h : (b / 16).toNat < (ByteArray.mk #[48, 49, 50, 51, 52, 53, 54, 55, 56, 57, 97, 98, 99, 100, 101, 102, 103, 104, 105, 106, 107, 108, 109, 110, 111, 112, 113, 114, 115, 116, 117, 118, 119, 120, 121, 122]).size, ((((ByteArray.mk #[48, 49, 50, 51, 52, 53, 54, 55, 56, 57, 97, 98, 99, 100, 101, 102, 103, 104, 105, 106, 107, 108, 109, 110, 111, 112, 113, 114, 115, 116, 117, 118, 119, 120, 121, 122])[(b / 16).toNat]'h).toNat : Nat) : Int) = bt lowT (b / 16) := bt_at lowT (b / 16)
  have l2 : ∀ h : (b % 16).toNat < (ByteArray.mk #[48, 49, 50, 51, 52, 53, 54, 55, 56, 57, 97, 98, 99, 100, 101, 102, 103, 104, 105, 106, 107, 108, 109, 110, 111, 112, 113, 114, 115, 116, 117, 118, 119, 120, 121, 122]).size, ((((ByteArray.mk #[48, 49, 50, 51, 52, 53, 54, 55, 56, 57, 97, 98, 99, 100, 101, 102, 103, 104, 105, 106, 107, 108, 109, 110, 111, 112, 113, 114, 115, 116, 117, 118, 119, 120, 121, 122])[(b % 16).toNat]'h).toNat : Nat) : Int) = bt lowT (b % 16) := bt_at lowT (b % 16)
  have Hu := Lib.hid (upp_hex b h0 (by omega))
  go_enter Try.func42, Try.ntmps42
  go_upto_region 1 with (fail)
  refine start_ (n := 10) (S := (fun w' => Below w.heap.size w w')) (ds := []) #[false, false, false, false, false, false, false, false, false, false] (by kernel_rfl) rfl rfl (Below.refl _ _ : Below w.heap.size w w).drew (fun hHeld => ?_)
  refine pure_ (i := 0) (N := some 3) (v := ?_) (a' := ?_) #[true, false, false, false, false, false, false, false, false, false] rfl rfl (by kernel_rfl) (fun _ _ _ h => h) (Or.inl ⟨by rfl, ?_⟩) ?_ ?_
  rotate_left
  · intro w'
    go_simp
    with_reducible rfl
  rotate_left
  · simp only [Act.put, List.setIfInBounds_toArray, List.set_cons_zero, List.set_cons_succ, i64_w, i32_w]
    rfl
  refine pure_ (i := 1) (N := some 4) (v := ?_) (a' := ?_) #[true, true, false, false, false, false, false, false, false, false] rfl rfl (by kernel_rfl) (fun _ _ _ h => h) (Or.inl ⟨by rfl, ?_⟩) ?_ ?_
  rotate_left
  · intro w'
    go_simp
    with_reducible rfl
  rotate_left
  · simp only [Act.put, List.setIfInBounds_toArray, List.set_cons_zero, List.set_cons_succ, i64_w, i32_w]
    rfl
  refine pure_ (i := 3) (N := some 6) (v := ?_) (a' := ?_) #[true, true, false, true, false, false, false, false, false, false] rfl rfl (by kernel_rfl) (fun _ _ _ h => h) (Or.inl ⟨by rfl, ?_⟩) ?_ ?_
  rotate_left
  · intro w'
    go_simp
    with_reducible rfl
  rotate_left
  · simp only [Act.put, List.setIfInBounds_toArray, List.set_cons_zero, List.set_cons_succ, i64_w, i32_w]
    rfl
  refine pure_ (i := 4) (N := some 7) (v := ?_) (a' := ?_) #[true, true, false, true, true, false, false, false, false, false] rfl rfl (by kernel_rfl) (fun _ _ _ h => h) (Or.inl ⟨by rfl, ?_⟩) ?_ ?_
  rotate_left
  · intro w'
    go_simp
    with_reducible rfl
  rotate_left
  · simp only [Act.put, List.setIfInBounds_toArray, List.set_cons_zero, List.set_cons_succ, i64_w, i32_w]
    rfl
  refine take_ (i := 2) (N := some 5) (v := ?_) (a' := ?_) #[true, true, true, true, true, false, false, false, false, false] rfl rfl (by kernel_rfl) (fun _ _ _ h => h) (Or.inl ⟨by rfl, ?_⟩) hHeld ?_ ?_
  rotate_left
  · rintro w' s1
    go_simp
    with_reducible rfl
  rotate_left
  · simp only [Act.put, List.setIfInBounds_toArray, List.set_cons_zero, List.set_cons_succ, i64_w, i32_w]
    rfl
  refine take_ (i := 5) (N := some 8) (v := ?_) (a' := ?_) #[true, true, true, true, true, true, false, false, false, false] rfl rfl (by kernel_rfl) (fun _ _ _ h => h) (Or.inl ⟨by rfl, ?_⟩) hHeld ?_ ?_
  rotate_left
  · rintro w' s1
    go_simp
    with_reducible rfl
  rotate_left
  · simp only [Act.put, List.setIfInBounds_toArray, List.set_cons_zero, List.set_cons_succ, i64_w, i32_w]
    rfl
  refine one_ (i := 6) (N := some 9) #[true, true, true, true, true, true, true, false, false, false] rfl rfl (by kernel_rfl) (by decide) (fun K hK => ?_)
  refine litv2_ (by rfl) rfl _ _ (bt lowT (b / 16)) (bt lowT (b % 16)) rfl rfl rfl ?_
  intro G6 W6 B6 hbc
  refine hK.out _ _ (below_after hHeld hbc) (fun hHeld => ?_)
  clear hK K
  refine norm_ (a' := ?_) ?_ ?_
  rotate_left
  · show Act.put _ (some 9) _ = _
    simp only [Act.put, List.setIfInBounds_toArray, List.set_cons_zero, List.set_cons_succ, i64_w, i32_w]
    rfl
  refine one_ (i := 7) (N := some 10) #[true, true, true, true, true, true, true, true, false, false] rfl rfl (by kernel_rfl) (by decide) (fun K hK => ?_)
  refine value_ (by rfl) rfl (exec_text2 (src := 49) (dst := 9) (x := .tmp 9) (A := some ⟨G6, 0, none⟩) (c := 2) (xs := [bt lowT (b / 16), bt lowT (b % 16)]) rfl rfl Try.underlying49 Try.underlying5 Try.underlying9 (reads_blk B6 (by simp))) ?_
  skip
  refine hK.out _ _ (hHeld) (fun hHeld => ?_)
  clear hK K
  refine norm_ (a' := ?_) ?_ ?_
  rotate_left
  · show Act.put _ (some 10) _ = _
    simp only [Act.put, List.setIfInBounds_toArray, List.set_cons_zero, List.set_cons_succ, i64_w, i32_w]
    rfl
  refine one_ (i := 8) (N := some 11) #[true, true, true, true, true, true, true, true, true, false] rfl rfl (by kernel_rfl) (by decide) (fun K hK => ?_)
  refine goes_ Try.func46 (by kernel_rfl) rfl #[.string (strOfNums [bt lowT (b / 16), bt lowT (b % 16)])] (by rfl) rfl rfl (by first | rfl | (simp only [List.map_toArray, List.map_cons, List.map_nil]; done) | (simp only [List.map_toArray, List.map_cons, List.map_nil]; rfl)) ?_
  refine (Upper_any _ _ (by rw [strOfNums_size]; simp)).mono ?_
  rintro _ wq ⟨rfl, hbc⟩
  refine ⟨_, rfl, ?_⟩
  refine hK.out _ _ (below_after hHeld hbc) (fun hHeld => ?_)
  clear hK K
  refine norm_ (a' := ?_) ?_ ?_
  rotate_left
  · show Act.put _ (some 11) _ = _
    simp only [Act.put, List.setIfInBounds_toArray, List.set_cons_zero, List.set_cons_succ, i64_w, i32_w]
    rfl
  refine pure_ (i := 9) (N := some 2) (v := ?_) (a' := ?_) #[true, true, true, true, true, true, true, true, true, true] rfl rfl (by kernel_rfl) (fun _ _ _ h => h) (Or.inl ⟨by rfl, ?_⟩) ?_ ?_
  rotate_left
  · intro w'
    go_simp
    with_reducible rfl
  rotate_left
  · simp only [Act.put, List.setIfInBounds_toArray, List.set_cons_zero, List.set_cons_succ, i64_w, i32_w]
    rfl
  refine done_ (by kernel_rfl) ?_
  go_wp2
  go_ret
  exact ⟨by rw [← Hu.out]; rfl, hHeld⟩
theorem up_digit (r : Int) (h0 : 0 ≤ r) (h1 : r < 16) : (ByteArray.mk #[48, 49, 50, 51, 52, 53, 54, 55, 56, 57, 65, 66, 67, 68, 69, 70]).extract r.toNat (r + 1).toNat = strOfNums [bt upT r] := by
  have h : ∀ k : Nat, k < 16 → ((ByteArray.mk #[48, 49, 50, 51, 52, 53, 54, 55, 56, 57, 65, 66, 67, 68, 69, 70]).extract k (k + 1)).data.toList = (strOfNums [bt upT (k : Int)]).data.toList := by decide +kernel
  obtain ⟨k, rfl⟩ := Int.eq_ofNat_of_zero_le h0
  have := h k (by omega)
  apply ByteArray.ext
  apply Array.toList_inj.1
  exact this
set_option maxRecDepth 100000 in
set_option maxHeartbeats 4000000 in
theorem rhex_any (b : Int) (w : World) (h0 : 0 ≤ b) (h1 : b ≤ 255) : Calls Try.prog 37 #[.int .u8 b] w fun e w' => e = .returned (.string (hexS b)) ∧ Below w.heap.size w w' := by
  have k0 : 0 ≤ b / 16 := by omega
  have k1 : b / 16 < 16 := by omega
  have k2 : 0 ≤ b % 16 := by omega
  have k3 : b % 16 < 16 := by omega
  have t1 : b.tdiv 16 = b / 16 := Int.tdiv_eq_ediv_of_nonneg h0
  have t2 : b.tmod 16 = b % 16 := Int.tmod_eq_emod_of_nonneg h0
  have v0 : IntKind.u8.wrap (b / 16) = b / 16 := by rw [IntKind.wrap_u8]; omega
  have v1 : IntKind.u8.wrap (b / 16 + 1) = b / 16 + 1 := by rw [IntKind.wrap_u8]; omega
  have v2 : IntKind.u8.wrap (b % 16 + 1) = b % 16 + 1 := by rw [IntKind.wrap_u8]; omega
  have x1 := up_digit (b / 16) k0 k1
  have x2 := up_digit (b % 16) k2 k3
  have z1 : (strOfNums [bt upT (b / 16)]).size = 1 := strOfNums_size _
  have z2 : (strOfNums [bt upT (b % 16)]).size = 1 := strOfNums_size _
  have ha : strOfNums [bt upT (b / 16)] ++ strOfNums [bt upT (b % 16)] = hexS b := strOfNums_append _ _
  have n1 : b / 16 ≤ b / 16 + 1 := by omega
  have n2 : b % 16 ≤ b % 16 + 1 := by omega
  have n3 : b / 16 + 1 ≤ 16 := by omega
  have n4 : b % 16 + 1 ≤ 16 := by omega
  go_enter Try.func37, Try.ntmps37
  go_upto_region 1 with (fail)
  refine start_ (n := 14) (S := (fun w' => Below w.heap.size w w')) (ds := []) #[false, false, false, false, false, false, false, false, false, false, false, false, false, false] (by kernel_rfl) rfl rfl (Below.refl _ _ : Below w.heap.size w w).drew (fun hHeld => ?_)
  refine pure_ (i := 0) (N := some 3) (v := ?_) (a' := ?_) #[true, false, false, false, false, false, false, false, false, false, false, false, false, false] rfl rfl (by kernel_rfl) (fun _ _ _ h => h) (Or.inl ⟨by rfl, ?_⟩) ?_ ?_
  rotate_left
  · intro w'
    go_simp
    with_reducible rfl
  rotate_left
  · simp only [Act.put, List.setIfInBounds_toArray, List.set_cons_zero, List.set_cons_succ, i64_w, i32_w]
    rfl
  refine pure_ (i := 1) (N := some 4) (v := ?_) (a' := ?_) #[true, true, false, false, false, false, false, false, false, false, false, false, false, false] rfl rfl (by kernel_rfl) (fun _ _ _ h => h) (Or.inl ⟨by rfl, ?_⟩) ?_ ?_
  rotate_left
  · intro w'
    go_simp
    with_reducible rfl
  rotate_left
  · simp only [Act.put, List.setIfInBounds_toArray, List.set_cons_zero, List.set_cons_succ, i64_w, i32_w]
    rfl
  refine pure_ (i := 2) (N := some 5) (v := ?_) (a' := ?_) #[true, true, true, false, false, false, false, false, false, false, false, false, false, false] rfl rfl (by kernel_rfl) (fun _ _ _ h => h) (Or.inl ⟨by rfl, ?_⟩) ?_ ?_
  rotate_left
  · intro w'
    go_simp
    with_reducible rfl
  rotate_left
  · simp only [Act.put, List.setIfInBounds_toArray, List.set_cons_zero, List.set_cons_succ, i64_w, i32_w]
    rfl
  refine pure_ (i := 3) (N := some 6) (v := ?_) (a' := ?_) #[true, true, true, true, false, false, false, false, false, false, false, false, false, false] rfl rfl (by kernel_rfl) (fun _ _ _ h => h) (Or.inl ⟨by rfl, ?_⟩) ?_ ?_
  rotate_left
  · intro w'
    go_simp
    with_reducible rfl
  rotate_left
  · simp only [Act.put, List.setIfInBounds_toArray, List.set_cons_zero, List.set_cons_succ, i64_w, i32_w]
    rfl
  refine pure_ (i := 4) (N := some 7) (v := ?_) (a' := ?_) #[true, true, true, true, true, false, false, false, false, false, false, false, false, false] rfl rfl (by kernel_rfl) (fun _ _ _ h => h) (Or.inl ⟨by rfl, ?_⟩) ?_ ?_
  rotate_left
  · intro w'
    go_simp
    with_reducible rfl
  rotate_left
  · simp only [Act.put, List.setIfInBounds_toArray, List.set_cons_zero, List.set_cons_succ, i64_w, i32_w]
    rfl
  refine pure_ (i := 5) (N := some 8) (v := ?_) (a' := ?_) #[true, true, true, true, true, true, false, false, false, false, false, false, false, false] rfl rfl (by kernel_rfl) (fun _ _ _ h => h) (Or.inl ⟨by rfl, ?_⟩) ?_ ?_
  rotate_left
  · intro w'
    go_simp
    with_reducible rfl
  rotate_left
  · simp only [Act.put, List.setIfInBounds_toArray, List.set_cons_zero, List.set_cons_succ, i64_w, i32_w]
    rfl
  refine pure_ (i := 6) (N := some 9) (v := ?_) (a' := ?_) #[true, true, true, true, true, true, true, false, false, false, false, false, false, false] rfl rfl (by kernel_rfl) (fun _ _ _ h => h) (Or.inl ⟨by rfl, ?_⟩) ?_ ?_
  rotate_left
  · intro w'
    go_simp
    with_reducible rfl
  rotate_left
  · simp only [Act.put, List.setIfInBounds_toArray, List.set_cons_zero, List.set_cons_succ, i64_w, i32_w]
    rfl
  refine pure_ (i := 7) (N := some 10) (v := ?_) (a' := ?_) #[true, true, true, true, true, true, true, true, false, false, false, false, false, false] rfl rfl (by kernel_rfl) (fun _ _ _ h => h) (Or.inl ⟨by rfl, ?_⟩) ?_ ?_
  rotate_left
  · intro w'
    go_simp
    with_reducible rfl
  rotate_left
  · simp only [Act.put, List.setIfInBounds_toArray, List.set_cons_zero, List.set_cons_succ, i64_w, i32_w]
    rfl
  refine pure_ (i := 8) (N := some 11) (v := ?_) (a' := ?_) #[true, true, true, true, true, true, true, true, true, false, false, false, false, false] rfl rfl (by kernel_rfl) (fun _ _ _ h => h) (Or.inl ⟨by rfl, ?_⟩) ?_ ?_
  rotate_left
  · intro w'
    go_simp
    with_reducible rfl
  rotate_left
  · simp only [Act.put, List.setIfInBounds_toArray, List.set_cons_zero, List.set_cons_succ, i64_w, i32_w]
    rfl
  refine pure_ (i := 9) (N := some 12) (v := ?_) (a' := ?_) #[true, true, true, true, true, true, true, true, true, true, false, false, false, false] rfl rfl (by kernel_rfl) (fun _ _ _ h => h) (Or.inl ⟨by rfl, ?_⟩) ?_ ?_
  rotate_left
  · intro w'
    go_simp
    with_reducible rfl
  rotate_left
  · simp only [Act.put, List.setIfInBounds_toArray, List.set_cons_zero, List.set_cons_succ, i64_w, i32_w]
    rfl
  refine pure_ (i := 10) (N := some 13) (v := ?_) (a' := ?_) #[true, true, true, true, true, true, true, true, true, true, true, false, false, false] rfl rfl (by kernel_rfl) (fun _ _ _ h => h) (Or.inl ⟨by rfl, ?_⟩) ?_ ?_
  rotate_left
  · intro w'
    go_simp
    with_reducible rfl
  rotate_left
  · simp only [Act.put, List.setIfInBounds_toArray, List.set_cons_zero, List.set_cons_succ, i64_w, i32_w]
    rfl
  refine pure_ (i := 11) (N := some 14) (v := ?_) (a' := ?_) #[true, true, true, true, true, true, true, true, true, true, true, true, false, false] rfl rfl (by kernel_rfl) (fun _ _ _ h => h) (Or.inl ⟨by rfl, ?_⟩) ?_ ?_
  rotate_left
  · intro w'
    go_simp
    with_reducible rfl
  rotate_left
  · simp only [Act.put, List.setIfInBounds_toArray, List.set_cons_zero, List.set_cons_succ, i64_w, i32_w]
    rfl
  refine pure_ (i := 12) (N := some 15) (v := ?_) (a' := ?_) #[true, true, true, true, true, true, true, true, true, true, true, true, true, false] rfl rfl (by kernel_rfl) (fun _ _ _ h => h) (Or.inl ⟨by rfl, ?_⟩) ?_ ?_
  rotate_left
  · intro w'
    go_simp
    with_reducible rfl
  rotate_left
  · simp only [Act.put, List.setIfInBounds_toArray, List.set_cons_zero, List.set_cons_succ, i64_w, i32_w]
    rfl
  refine pure_ (i := 13) (N := some 2) (v := ?_) (a' := ?_) #[true, true, true, true, true, true, true, true, true, true, true, true, true, true] rfl rfl (by kernel_rfl) (fun _ _ _ h => h) (Or.inl ⟨by rfl, ?_⟩) ?_ ?_
  rotate_left
  · intro w'
    go_simp
    with_reducible rfl
  rotate_left
  · simp only [Act.put, List.setIfInBounds_toArray, List.set_cons_zero, List.set_cons_succ, i64_w, i32_w]
    rfl
  refine done_ (by kernel_rfl) ?_
  go_wp2
  go_ret
  exact ⟨rfl, hHeld⟩
end Go.Proofs.Ytfbgmlophkbejaa
