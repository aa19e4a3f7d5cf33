/- Puny: what Go's decoder says of a slice of bytes that begins with no ASCII byte: no ASCII. (Written by wip/gen/punl.py.) -/
import Derived.Test.YtmjlkifmbhaiiaaDoorBas
import Derived.Shelf.Unicode.DecodeSlow
set_option linter.unusedVariables false
set_option linter.unusedSimpArgs false
namespace Go.Proofs.YtmjlkifmbhaiiaaDoor
open Go.RowKit Go.Proofs.YtmjlkifmbhaiiaaDoorW.PrintWords Go.Proofs.YtmjlkifmbhaiiaaDoorW.PrintLast
def TabsP (w : World) : Prop:=Lib.Utf8Tabs 1 2 w
theorem TabsP_below {w w' : World} (h : TabsP w) (hb : Below w.heap.size w w') : TabsP w':=by
 refine ⟨fun c hc => ?_,fun i hi => ⟨?_,?_⟩⟩
 ·exact (hb.cell (World.block_lt_of_cell? _ _ (h.1 c hc))).trans (h.1 c hc)
 ·exact (hb.cell (World.block_lt_of_cell? _ _ (h.2 i hi).1)).trans (h.2 i hi).1
 ·exact (hb.cell (World.block_lt_of_cell? _ _ (h.2 i hi).2)).trans (h.2 i hi).2
def HighSuch (w : World) (e : Ending) (w' : World) : Prop:=∃ r k : Int,e=.returned (.tuple #[.int .i32 r,.int .i64 k])∧128≤r∧r≤2147483647∧Below w.heap.size w w'
set_option maxHeartbeats 16000000 in
set_option maxRecDepth 1000000 in
theorem slow_high (b o n c : Nat) (x0 x1 x2 x3 : Nat) (w : World) (T : TabsP w) (h0 : 128≤x0) (l0 : x0 < 256) (l1 : x1 < 256) (l2 : x2 < 256) (l3 : x3 < 256) (hn : 1≤n) (hn1 : n≤9223372036854775807)
  (d0 : w.cell? ⟨b,o,none⟩=some (.int .u8 (x0 : Int))) (d1 : 1 < n→w.cell? ⟨b,o + 1,none⟩=some (.int .u8 (x1 : Int))) (d2 : 2 < n→w.cell? ⟨b,o + 2,none⟩=some (.int .u8 (x2 : Int))) (d3 : 3 < n→w.cell? ⟨b,o + 3,none⟩=some (.int .u8 (x3 : Int))) :
  Calls Tryd.prog 64 #[.slice (some ⟨b,o,none⟩) n c] w (HighSuch w):=by
 have hc0:=T.1 x0 (by omega)
 have hz0 : (0 : Int) < (n : Int):=by omega
 have hz0' : ¬ ((n : Int) < 1):=by omega
 rcases Lib.firstT_cases x0 with hX|hX|hX|hX|hX|hX|hX|hX|hX
 ·unfold Lib.firstT at hX
  exfalso
  repeat' split at hX
  all_goals omega
 ·rw [hX] at hc0
  clear hX T d1 d2 d3
  go_enter Tryd.func64,Tryd.ntmps64
  go_wp2
  rw [Utf8W.mask241,Utf8W.drop_byte ⟨x0,l0⟩]
  go_ret2
  exact ⟨_,_,rfl,by omega,by omega,Below.refl _ _⟩
 ·have hx0 : 194≤x0∧x0 < 224:=by
   unfold Lib.firstT at hX
   repeat' split at hX
   all_goals omega
  rw [hX] at hc0
  have ha0:=(T.2 0 (by omega)).1
  have ha1:=(T.2 0 (by omega)).2
  simp only [Lib.accLo,Lib.accHi,Nat.reduceMul,Nat.reduceAdd,Nat.reduceEqDiff,if_true,if_false,Nat.reduceMod,Nat.reduceDiv] at ha0 ha1
  clear hX T
  by_cases hl : n < 2
  ·have hnz : (n : Int) < 2:=by omega
   clear d1 d2 d3
   go_enter Tryd.func64,Tryd.ntmps64
   go_wp2
   all_goals (go_ret2;exact ⟨_,_,rfl,by omega,by omega,(Below.refl _ _).alloc (Nat.le_refl _) _⟩)
  ·have hnz : ¬ ((n : Int) < 2):=by omega
   have hz1 : (1 : Int) < (n : Int):=by omega
   have e1 : (w.alloc (.cells #[.int .u8 128,.int .u8 191] 85)).cell? ⟨b,o + 1,none⟩=some (.int .u8 (x1 : Int)):=((below_one w _).cell (World.block_lt_of_cell? _ _ (d1 (by omega)))).trans (d1 (by omega))
   clear d1 d2 d3
   go_enter Tryd.func64,Tryd.ntmps64
   go_wp2
   all_goals (go_ret2;exact ⟨_,_,rfl,by omega,by omega,(Below.refl _ _).alloc (Nat.le_refl _) _⟩)
 ·have hx0 : 224≤x0∧x0 < 225:=by
   unfold Lib.firstT at hX
   repeat' split at hX
   all_goals omega
  rw [hX] at hc0
  have ha0:=(T.2 1 (by omega)).1
  have ha1:=(T.2 1 (by omega)).2
  simp only [Lib.accLo,Lib.accHi,Nat.reduceMul,Nat.reduceAdd,Nat.reduceEqDiff,if_true,if_false,Nat.reduceMod,Nat.reduceDiv] at ha0 ha1
  clear hX T
  by_cases hl : n < 3
  ·have hnz : (n : Int) < 3:=by omega
   clear d1 d2 d3
   go_enter Tryd.func64,Tryd.ntmps64
   go_wp2
   all_goals (go_ret2;exact ⟨_,_,rfl,by omega,by omega,(Below.refl _ _).alloc (Nat.le_refl _) _⟩)
  ·have hnz : ¬ ((n : Int) < 3):=by omega
   have hz1 : (1 : Int) < (n : Int):=by omega
   have e1 : (w.alloc (.cells #[.int .u8 160,.int .u8 191] 85)).cell? ⟨b,o + 1,none⟩=some (.int .u8 (x1 : Int)):=((below_one w _).cell (World.block_lt_of_cell? _ _ (d1 (by omega)))).trans (d1 (by omega))
   have hz2 : (2 : Int) < (n : Int):=by omega
   have e2 : (w.alloc (.cells #[.int .u8 160,.int .u8 191] 85)).cell? ⟨b,o + 2,none⟩=some (.int .u8 (x2 : Int)):=((below_one w _).cell (World.block_lt_of_cell? _ _ (d2 (by omega)))).trans (d2 (by omega))
   clear d1 d2 d3
   go_enter Tryd.func64,Tryd.ntmps64
   go_wp2
   all_goals (go_ret2;exact ⟨_,_,rfl,by omega,by omega,(Below.refl _ _).alloc (Nat.le_refl _) _⟩)
 ·have hx0 : 225≤x0∧x0 < 240:=by
   unfold Lib.firstT at hX
   repeat' split at hX
   all_goals omega
  rw [hX] at hc0
  have ha0:=(T.2 0 (by omega)).1
  have ha1:=(T.2 0 (by omega)).2
  simp only [Lib.accLo,Lib.accHi,Nat.reduceMul,Nat.reduceAdd,Nat.reduceEqDiff,if_true,if_false,Nat.reduceMod,Nat.reduceDiv] at ha0 ha1
  clear hX T
  by_cases hl : n < 3
  ·have hnz : (n : Int) < 3:=by omega
   clear d1 d2 d3
   go_enter Tryd.func64,Tryd.ntmps64
   go_wp2
   all_goals (go_ret2;exact ⟨_,_,rfl,by omega,by omega,(Below.refl _ _).alloc (Nat.le_refl _) _⟩)
  ·have hnz : ¬ ((n : Int) < 3):=by omega
   have hz1 : (1 : Int) < (n : Int):=by omega
   have e1 : (w.alloc (.cells #[.int .u8 128,.int .u8 191] 85)).cell? ⟨b,o + 1,none⟩=some (.int .u8 (x1 : Int)):=((below_one w _).cell (World.block_lt_of_cell? _ _ (d1 (by omega)))).trans (d1 (by omega))
   have hz2 : (2 : Int) < (n : Int):=by omega
   have e2 : (w.alloc (.cells #[.int .u8 128,.int .u8 191] 85)).cell? ⟨b,o + 2,none⟩=some (.int .u8 (x2 : Int)):=((below_one w _).cell (World.block_lt_of_cell? _ _ (d2 (by omega)))).trans (d2 (by omega))
   clear d1 d2 d3
   go_enter Tryd.func64,Tryd.ntmps64
   go_wp2
   all_goals (go_ret2;exact ⟨_,_,rfl,by omega,by omega,(Below.refl _ _).alloc (Nat.le_refl _) _⟩)
 ·have hx0 : 237≤x0∧x0 < 238:=by
   unfold Lib.firstT at hX
   repeat' split at hX
   all_goals omega
  rw [hX] at hc0
  have ha0:=(T.2 2 (by omega)).1
  have ha1:=(T.2 2 (by omega)).2
  simp only [Lib.accLo,Lib.accHi,Nat.reduceMul,Nat.reduceAdd,Nat.reduceEqDiff,if_true,if_false,Nat.reduceMod,Nat.reduceDiv] at ha0 ha1
  clear hX T
  by_cases hl : n < 3
  ·have hnz : (n : Int) < 3:=by omega
   clear d1 d2 d3
   go_enter Tryd.func64,Tryd.ntmps64
   go_wp2
   all_goals (go_ret2;exact ⟨_,_,rfl,by omega,by omega,(Below.refl _ _).alloc (Nat.le_refl _) _⟩)
  ·have hnz : ¬ ((n : Int) < 3):=by omega
   have hz1 : (1 : Int) < (n : Int):=by omega
   have e1 : (w.alloc (.cells #[.int .u8 128,.int .u8 159] 85)).cell? ⟨b,o + 1,none⟩=some (.int .u8 (x1 : Int)):=((below_one w _).cell (World.block_lt_of_cell? _ _ (d1 (by omega)))).trans (d1 (by omega))
   have hz2 : (2 : Int) < (n : Int):=by omega
   have e2 : (w.alloc (.cells #[.int .u8 128,.int .u8 159] 85)).cell? ⟨b,o + 2,none⟩=some (.int .u8 (x2 : Int)):=((below_one w _).cell (World.block_lt_of_cell? _ _ (d2 (by omega)))).trans (d2 (by omega))
   clear d1 d2 d3
   go_enter Tryd.func64,Tryd.ntmps64
   go_wp2
   all_goals (go_ret2;exact ⟨_,_,rfl,by omega,by omega,(Below.refl _ _).alloc (Nat.le_refl _) _⟩)
 ·have hx0 : 240≤x0∧x0 < 241:=by
   unfold Lib.firstT at hX
   repeat' split at hX
   all_goals omega
  rw [hX] at hc0
  have ha0:=(T.2 3 (by omega)).1
  have ha1:=(T.2 3 (by omega)).2
  simp only [Lib.accLo,Lib.accHi,Nat.reduceMul,Nat.reduceAdd,Nat.reduceEqDiff,if_true,if_false,Nat.reduceMod,Nat.reduceDiv] at ha0 ha1
  clear hX T
  by_cases hl : n < 4
  ·have hnz : (n : Int) < 4:=by omega
   clear d1 d2 d3
   go_enter Tryd.func64,Tryd.ntmps64
   go_wp2
   all_goals (go_ret2;exact ⟨_,_,rfl,by omega,by omega,(Below.refl _ _).alloc (Nat.le_refl _) _⟩)
  ·have hnz : ¬ ((n : Int) < 4):=by omega
   have hz1 : (1 : Int) < (n : Int):=by omega
   have e1 : (w.alloc (.cells #[.int .u8 144,.int .u8 191] 85)).cell? ⟨b,o + 1,none⟩=some (.int .u8 (x1 : Int)):=((below_one w _).cell (World.block_lt_of_cell? _ _ (d1 (by omega)))).trans (d1 (by omega))
   have hz2 : (2 : Int) < (n : Int):=by omega
   have e2 : (w.alloc (.cells #[.int .u8 144,.int .u8 191] 85)).cell? ⟨b,o + 2,none⟩=some (.int .u8 (x2 : Int)):=((below_one w _).cell (World.block_lt_of_cell? _ _ (d2 (by omega)))).trans (d2 (by omega))
   have hz3 : (3 : Int) < (n : Int):=by omega
   have e3 : (w.alloc (.cells #[.int .u8 144,.int .u8 191] 85)).cell? ⟨b,o + 3,none⟩=some (.int .u8 (x3 : Int)):=((below_one w _).cell (World.block_lt_of_cell? _ _ (d3 (by omega)))).trans (d3 (by omega))
   clear d1 d2 d3
   go_enter Tryd.func64,Tryd.ntmps64
   go_wp2
   all_goals (go_ret2;exact ⟨_,_,rfl,by omega,by omega,(Below.refl _ _).alloc (Nat.le_refl _) _⟩)
 ·have hx0 : 241≤x0∧x0 < 244:=by
   unfold Lib.firstT at hX
   repeat' split at hX
   all_goals omega
  rw [hX] at hc0
  have ha0:=(T.2 0 (by omega)).1
  have ha1:=(T.2 0 (by omega)).2
  simp only [Lib.accLo,Lib.accHi,Nat.reduceMul,Nat.reduceAdd,Nat.reduceEqDiff,if_true,if_false,Nat.reduceMod,Nat.reduceDiv] at ha0 ha1
  clear hX T
  by_cases hl : n < 4
  ·have hnz : (n : Int) < 4:=by omega
   clear d1 d2 d3
   go_enter Tryd.func64,Tryd.ntmps64
   go_wp2
   all_goals (go_ret2;exact ⟨_,_,rfl,by omega,by omega,(Below.refl _ _).alloc (Nat.le_refl _) _⟩)
  ·have hnz : ¬ ((n : Int) < 4):=by omega
   have hz1 : (1 : Int) < (n : Int):=by omega
   have e1 : (w.alloc (.cells #[.int .u8 128,.int .u8 191] 85)).cell? ⟨b,o + 1,none⟩=some (.int .u8 (x1 : Int)):=((below_one w _).cell (World.block_lt_of_cell? _ _ (d1 (by omega)))).trans (d1 (by omega))
   have hz2 : (2 : Int) < (n : Int):=by omega
   have e2 : (w.alloc (.cells #[.int .u8 128,.int .u8 191] 85)).cell? ⟨b,o + 2,none⟩=some (.int .u8 (x2 : Int)):=((below_one w _).cell (World.block_lt_of_cell? _ _ (d2 (by omega)))).trans (d2 (by omega))
   have hz3 : (3 : Int) < (n : Int):=by omega
   have e3 : (w.alloc (.cells #[.int .u8 128,.int .u8 191] 85)).cell? ⟨b,o + 3,none⟩=some (.int .u8 (x3 : Int)):=((below_one w _).cell (World.block_lt_of_cell? _ _ (d3 (by omega)))).trans (d3 (by omega))
   clear d1 d2 d3
   go_enter Tryd.func64,Tryd.ntmps64
   go_wp2
   all_goals (go_ret2;exact ⟨_,_,rfl,by omega,by omega,(Below.refl _ _).alloc (Nat.le_refl _) _⟩)
 ·have hx0 : 244≤x0∧x0 < 245:=by
   unfold Lib.firstT at hX
   repeat' split at hX
   all_goals omega
  rw [hX] at hc0
  have ha0:=(T.2 4 (by omega)).1
  have ha1:=(T.2 4 (by omega)).2
  simp only [Lib.accLo,Lib.accHi,Nat.reduceMul,Nat.reduceAdd,Nat.reduceEqDiff,if_true,if_false,Nat.reduceMod,Nat.reduceDiv] at ha0 ha1
  clear hX T
  by_cases hl : n < 4
  ·have hnz : (n : Int) < 4:=by omega
   clear d1 d2 d3
   go_enter Tryd.func64,Tryd.ntmps64
   go_wp2
   all_goals (go_ret2;exact ⟨_,_,rfl,by omega,by omega,(Below.refl _ _).alloc (Nat.le_refl _) _⟩)
  ·have hnz : ¬ ((n : Int) < 4):=by omega
   have hz1 : (1 : Int) < (n : Int):=by omega
   have e1 : (w.alloc (.cells #[.int .u8 128,.int .u8 143] 85)).cell? ⟨b,o + 1,none⟩=some (.int .u8 (x1 : Int)):=((below_one w _).cell (World.block_lt_of_cell? _ _ (d1 (by omega)))).trans (d1 (by omega))
   have hz2 : (2 : Int) < (n : Int):=by omega
   have e2 : (w.alloc (.cells #[.int .u8 128,.int .u8 143] 85)).cell? ⟨b,o + 2,none⟩=some (.int .u8 (x2 : Int)):=((below_one w _).cell (World.block_lt_of_cell? _ _ (d2 (by omega)))).trans (d2 (by omega))
   have hz3 : (3 : Int) < (n : Int):=by omega
   have e3 : (w.alloc (.cells #[.int .u8 128,.int .u8 143] 85)).cell? ⟨b,o + 3,none⟩=some (.int .u8 (x3 : Int)):=((below_one w _).cell (World.block_lt_of_cell? _ _ (d3 (by omega)))).trans (d3 (by omega))
   clear d1 d2 d3
   go_enter Tryd.func64,Tryd.ntmps64
   go_wp2
   all_goals (go_ret2;exact ⟨_,_,rfl,by omega,by omega,(Below.refl _ _).alloc (Nat.le_refl _) _⟩)
set_option maxHeartbeats 4000000 in
set_option maxRecDepth 1000000 in
theorem dec_high (b o n c : Nat) (x0 x1 x2 x3 : Nat) (w : World) (T : TabsP w) (h0 : 128≤x0) (l0 : x0 < 256) (l1 : x1 < 256) (l2 : x2 < 256) (l3 : x3 < 256) (hn : 1≤n) (hn1 : n≤9223372036854775807)
  (d0 : w.cell? ⟨b,o,none⟩=some (.int .u8 (x0 : Int))) (d1 : 1 < n→w.cell? ⟨b,o + 1,none⟩=some (.int .u8 (x1 : Int))) (d2 : 2 < n→w.cell? ⟨b,o + 2,none⟩=some (.int .u8 (x2 : Int))) (d3 : 3 < n→w.cell? ⟨b,o + 3,none⟩=some (.int .u8 (x3 : Int))) :
  Calls Tryd.prog 61 #[.slice (some ⟨b,o,none⟩) n c] w (HighSuch w):=by
 have H:=Lib.hid (slow_high b o n c x0 x1 x2 x3 w T h0 l0 l1 l2 l3 hn hn1 d0 d1 d2 d3)
 have hz0 : (0 : Int) < (n : Int):=by omega
 have hz1 : ¬ ((x0 : Int) < 128):=by omega
 clear d1 d2 d3 T
 go_enter Tryd.func61,Tryd.ntmps61
 go_wp2
 refine wp_loop_rounds 1 ?_
 rw [rounds_succ]
 go_wp2_with (go_at_call 64;(with_reducible refine (H.out).mono ?_);rintro e w1 ⟨r,k,rfl,hr0,hr1,hb⟩)
 go_ret2
 exact ⟨r,k,rfl,hr0,hr1,hb⟩
set_option maxHeartbeats 4000000 in
set_option maxRecDepth 1000000 in
theorem dec_low (b o n c : Nat) (x0 : Nat) (w : World) (h0 : x0 < 128) (hn : 1≤n) (hn1 : n≤9223372036854775807) (d0 : w.cell? ⟨b,o,none⟩=some (.int .u8 (x0 : Int))) :
  Calls Tryd.prog 61 #[.slice (some ⟨b,o,none⟩) n c] w fun e w' => e=.returned (.tuple #[.int .i32 (x0 : Int),.int .i64 1])∧w'=w:=by
 have hz0 : (0 : Int) < (n : Int):=by omega
 have hz1 : (x0 : Int) < 128:=by omega
 go_enter Tryd.func61,Tryd.ntmps61
 go_wp2
 refine wp_loop_rounds 1 ?_
 rw [rounds_succ]
 go_wp2
 go_ret2
 exact ⟨rfl,rfl⟩
end Go.Proofs.YtmjlkifmbhaiiaaDoor
