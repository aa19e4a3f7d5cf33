/- Puny: check, by the program. -/
import Derived.Test.YtmjlkifmbhaiiaaDoorPunE
set_option linter.unusedVariables false
set_option linter.unusedSimpArgs false
namespace Go.Proofs.YtmjlkifmbhaiiaaDoor
open Go.RowKit Go.Proofs.YtmjlkifmbhaiiaaDoorW.PrintWords Go.Proofs.YtmjlkifmbhaiiaaDoorW.PrintLast Go.Proofs.YtmjlkifmbhaiiaaDoorQ.Pb
abbrev bootA (p : Bt) : Array Value:=#[.int .i64 p.base,.int .i64 p.least,.int .i64 p.most,.int .i64 p.skew,.int .i64 p.damp,.int .i64 p.bias,.int .i64 p.first,.int .u8 p.btw]
theorem bootCells {w : World} {g : Nat} {t : TypeId} {p : Bt} (h : Blk w g t (bootA p)) :
  w.cell? ⟨g,0,none⟩=some (.int .i64 p.base)∧w.cell? ⟨g,1,none⟩=some (.int .i64 p.least)∧w.cell? ⟨g,2,none⟩=some (.int .i64 p.most)∧w.cell? ⟨g,3,none⟩=some (.int .i64 p.skew) ∧
  w.cell? ⟨g,4,none⟩=some (.int .i64 p.damp)∧w.cell? ⟨g,5,none⟩=some (.int .i64 p.bias)∧w.cell? ⟨g,6,none⟩=some (.int .i64 p.first)∧w.cell? ⟨g,7,none⟩=some (.int .u8 p.btw) :=
 ⟨h.cell 0,h.cell 1,h.cell 2,h.cell 3,h.cell 4,h.cell 5,h.cell 6,h.cell 7⟩
set_option maxRecDepth 100000 in
set_option maxHeartbeats 8000000 in
theorem clo_any (p : Bt) (r : Int) (g : Nat) (w : World) (hb : Blk w g 59 (bootA p)) (hr : -2147483648≤r∧r≤2147483647) :
  Calls Tryd.prog 54 #[.int .i32 r,.pointer (some ⟨g,0,none⟩)] w fun e w' => e=.returned (.bool (odd p r))∧Below w.heap.size w w':=by
 obtain ⟨c0,c1,c2,c3,c4,c5,c6,c7⟩:=bootCells hb
 have hB:=fun W => Yi.calls p.base p.least p.most p.skew p.damp p.bias p.first p.btw r _ W (basic_is p r hr)
 have hod : odd p r=(decide (r < p.first) && !bas p r):=by
  unfold odd bas
  by_cases h : r < p.first <;> simp [h]
 rw [hod]
 obtain ⟨b,hbb⟩ : ∃ b,bas p r=b:=⟨_,rfl⟩
 rw [hbb] at hB ⊢
 have HB:=Lib.hid hB
 have hw:=w64 r (by omega) (by omega)
 clear hB hod hbb hb
 by_cases h : r < p.first
 ·rw [decide_eq_true h]
  go_enter Tryd.func54,Tryd.ntmps54
  go_wp2_with (first
   | (go_at_call 45;(with_reducible refine (HB.out _).mono ?_);rintro e w1 ⟨rfl,hb1⟩))
  go_ret
  exact ⟨by rw [Bool.true_and];rfl,hb1⟩
 ·rw [decide_eq_false h]
  go_enter Tryd.func54,Tryd.ntmps54
  go_wp2
  go_ret
  exact ⟨rfl,by first|exact Below.refl _ _|exact below_drewN (Below.refl _ _) _⟩
def i32s (l : List Int) : Prop:=∀ x ∈ l,-2147483648≤x∧x≤2147483647
theorem i32_at {l : List Int} (h : i32s l) (k : Nat) (hk : k < l.length) : -2147483648≤rd l k∧rd l k≤2147483647:=by
 have e : rd l k=l[k]:=by simp [rd,List.getD_eq_getElem?_getD,List.getElem?_eq_getElem hk]
 rw [e]
 exact h _ (List.getElem_mem hk)
set_option maxRecDepth 100000 in
set_option maxHeartbeats 8000000 in
theorem check_any (p : Bt) (l : List Int) (A : Option Addr) (c : Nat) (w : World) (hl : l.length≤1000000000000) (hr : ReadsInt w .i32 A l.length l) (hx : i32s l) :
  Calls Tryd.prog 44 #[.agg (bootA p),.slice A l.length c] w fun e w' => e=.returned (.tuple #[.int .i64 (chk p l).1,.int .i64 (chk p l).2])∧Below w.heap.size w w':=by
 obtain ⟨F,hF⟩ : ∃ F,fstB (fun r => !scl r) l 0=F:=⟨_,rfl⟩
 obtain ⟨G,hG⟩ : ∃ G,fstB (odd p) l 0=G:=⟨_,rfl⟩
 have hck : chk p l=if 0≤F then (F,20) else if 0≤G then (G,141) else (0,0):=by unfold chk;rw [hF,hG]
 obtain ⟨R1,R2,hR⟩ : ∃ R1 R2,chk p l=(R1,R2):=⟨_,_,rfl⟩
 rw [hR] at hck ⊢
 have HR:=Lib.hid hck
 clear hR
 have HF : Hid (fstB (fun r => !scl r) (l.drop 0) ((0 : Nat) : Int)=F):=Lib.hid hF
 have HG : Hid (fstB (odd p) (l.drop 0) ((0 : Nat) : Int)=G):=Lib.hid hG
 have HS:=Lib.hid (fun (r : Int) (W : World) => scalar_Scalar.calls 1 r _ W (Scalar_is 1 (Nat.le_refl _) r))
 have HX:=Lib.hid hx
 clear hF hG hck hx
 go_enter Tryd.func44,Tryd.ntmps44
 go_wp2
 go_loopw [11] (fun i wr => ∃ k : Nat,i=.int .i64 (k : Int)∧k≤l.length∧Hid (fstB (fun r => !scl r) (l.drop k) (k : Int)=F)∧Below w.heap.size w wr∧Blk wr w.heap.size 59 (bootA p)) (fun i _ => l.length - (intOf i).toNat)
 case atStart => exact ⟨0,rfl,by omega,HF,below_one _ _,Blk.new _ _ _⟩
 case round =>
  clear HF
  obtain ⟨k,rfl,hk,hw,hbel,hblk⟩:=hrel
  by_cases hlt : k < l.length
  ·obtain ⟨ad,rfl,d0⟩:=(hr.below hbel).at_ k (by omega) (by omega)
   simp only [Int.toNat_natCast] at d0
   have hw2:=hw.out
   rw [fstB_drop hlt] at hw2
   generalize rd l k=q at *
   have hd:=HS.out q
   cases hc : scl q with
   | false =>
    rw [hc] at hw2 hd
    simp only [Bool.not_false,if_true] at hw2
    have HH:=Lib.hid hd
    have HW:=Lib.hid hw2
    clear hd hc hw hw2
    go_wp2_with (go_at_call 52;(with_reducible refine (HH.out _).mono ?_);rintro e w2 ⟨rfl,hb2⟩)
    go_ret2
    refine ⟨?_,below_after hbel hb2.below⟩
    have hh:=HR.out
    rw [← HW.out,if_pos (by omega)] at hh
    cases hh
    rfl
   | true =>
    rw [hc] at hw2 hd
    simp only [Bool.not_true,Bool.false_eq_true,if_false] at hw2
    have HW : Hid (fstB (fun r => !scl r) (l.drop (k + 1)) ((k + 1 : Nat) : Int)=F):=Lib.hid hw2
    have HH:=Lib.hid hd
    clear hd hc hw hw2
    go_wp2_with (go_at_call 52;(with_reducible refine (HH.out _).mono ?_);rintro e w2 ⟨rfl,hb2⟩)
    exact ⟨⟨k + 1,rfl,by omega,HW,below_after hbel hb2.below,hblk.after hb2.below⟩,by simp [intOf];omega⟩
  ·obtain rfl : k=l.length:=by omega
   have hw2:=hw.out
   rw [List.drop_length] at hw2
   have hFm : F=-1:=hw2.symm
   clear hw hw2
   go_wp2
   go_loopw [8] (fun i wx => ∃ k : Nat,i=.int .i64 (k : Int)∧k≤l.length∧Hid (fstB (odd p) (l.drop k) (k : Int)=G)∧Below w.heap.size w wx∧Blk wx w.heap.size 59 (bootA p)) (fun i _ => l.length - (intOf i).toNat)
   case atStart => exact ⟨0,rfl,by omega,HG,hbel,hblk⟩
   case round =>
    clear HG hblk
    obtain ⟨k,rfl,hk,hw,hbel2,hblk⟩:=hrel
    by_cases hlt : k < l.length
    ·obtain ⟨ad,rfl,d0⟩:=(hr.below hbel2).at_ k (by omega) (by omega)
     simp only [Int.toNat_natCast] at d0
     have hw2:=hw.out
     have hrx:=i32_at HX.out k hlt
     rw [fstB_drop hlt] at hw2
     generalize rd l k=q at *
     have hd:=clo_any p q w.heap.size wr hblk hrx
     cases hc : odd p q with
     | true =>
      rw [hc] at hw2 hd
      simp only [if_true] at hw2
      have HW:=Lib.hid hw2
      have HH:=Lib.hid hd
      clear hd hc hw hw2
      go_wp2_with (go_at_call 54;(with_reducible refine (HH.out).mono ?_);rintro e w2 ⟨rfl,hb2⟩)
      go_ret2
      refine ⟨?_,below_after hbel2 hb2⟩
      have hh:=HR.out
      rw [← HW.out,if_neg (by omega),if_pos (by omega)] at hh
      cases hh
      rfl
     | false =>
      rw [hc] at hw2 hd
      simp only [Bool.false_eq_true,if_false] at hw2
      have HW : Hid (fstB (odd p) (l.drop (k + 1)) ((k + 1 : Nat) : Int)=G):=Lib.hid hw2
      have HH:=Lib.hid hd
      have hb':=fun W2 (h : Below wr.heap.size wr W2) => hblk.after h
      clear hd hc hw hw2
      go_wp2_with (go_at_call 54;(with_reducible refine (HH.out).mono ?_);rintro e w2 ⟨rfl,hb2⟩)
      exact ⟨⟨k + 1,rfl,by omega,HW,below_after hbel2 hb2,hb' _ hb2⟩,by simp [intOf];omega⟩
    ·obtain rfl : k=l.length:=by omega
     have hw2:=hw.out
     rw [List.drop_length] at hw2
     have hGm : G=-1:=hw2.symm
     clear hw hw2
     go_wp2
     go_ret2
     refine ⟨?_,hbel2⟩
     have hh:=HR.out
     rw [if_neg (by omega),if_neg (by omega)] at hh
     cases hh
     rfl
end Go.Proofs.YtmjlkifmbhaiiaaDoor
