/- Puny: from this repo's own contracts to the printed form. -/
import Derived.Test.YtmjlkifmbhaiiaaDoorPunM
import Derived.Test.YtmjlkifmbhaiiaaDoorWLast
set_option linter.unusedVariables false
set_option linter.unusedSimpArgs false
namespace Go.Proofs.YtmjlkifmbhaiiaaDoor
open Go.RowKit Go.Proofs.YtmjlkifmbhaiiaaDoorW.PrintWords Go.Proofs.YtmjlkifmbhaiiaaDoorW.PrintLast
abbrev Tabs (w : World) : Prop:=Lib.Utf8Tabs 1 2 w
theorem R_of_nums {k : IntKind} {e : TypeId} {base : Nat} {w : World} {v : Value} {l : List Int} (h : w.ownsRow base e 1 v l.length (nums k l)) : Kd.R (Kd.int k) e w base (fun _ => True) v l:=Kd.R_of_own h (fun _ _ => trivial)
theorem ints_of_C {k : IntKind} {w : World} {A : Option Addr} {n : Nat} {l : List Int} (h : Kd.C (Kd.int k) w A n l) : ReadsInt w k A n l:=Kd.reads_of_C (enc:=Value.int k) (d:=(0 : Int)) (h1:=fun _ => rfl) h
def okB (p : Bt) : Bool:=decide (3≤p.base∧p.base≤36∧0≤p.least∧p.least≤p.most∧1≤p.most∧p.most≤p.base - 2∧1≤p.skew∧p.skew≤10000∧2≤p.damp∧p.damp≤10000∧0≤p.bias∧p.bias≤10000∧1≤p.first∧p.first≤1114111∧33≤p.btw∧p.btw≤126∧p.btw < p.first∧dgt p p.btw < 0)
theorem okB_ok {p : Bt} (h : okB p=true) : p.Ok:=by
 obtain ⟨h1,h2,h3,h4,h5,h6,h7,h8,h9,h10,h11,h12,h13,h14,h15,h16,h17,h18⟩:=of_decide_eq_true h
 exact ⟨h1,h2,h3,h4,h5,h6,h7,h8,h9,h10,h11,h12,h13,h14,h15,h16,h17,h18⟩
theorem ok_okB {p : Bt} (h : p.Ok) : okB p=true:=decide_eq_true ⟨h.base0,h.base1,h.least0,h.least1,h.most0,h.most1,h.skew0,h.skew1,h.damp0,h.damp1,h.bias0,h.bias1,h.first0,h.first1,h.btw0,h.btw1,h.btw2,h.btw3⟩
def i32B (l : List Int) : Bool:=l.all fun x => decide (-2147483648≤x∧x≤2147483647)
theorem i32B_ok {l : List Int} (h : i32B l=true) : i32s l:=fun x hx => of_decide_eq_true (List.all_eq_true.1 h x hx)
def chkF (p : Bt) (l : List Int) : Option (Int × Int):=if l.length≤1000000000000∧i32B l=true then some (chk p l) else none
def decF (p : Bt) (s : ByteArray) : Option (List Int × Int × Int):=if okB p=true∧s.size≤268435456 then some (dec p (bytesOf s)) else none
theorem chk_calls (p : Bt) (A : Option Addr) (c : Nat) (l : List Int) (r1 r2 : Int) (w : World) (hr : Kd.C (Kd.int .i32) w A l.length l) (h : chkF p l=some (r1,r2)) :
  Calls Tryd.prog 44 #[.agg (bootA p),.slice A l.length c] w fun e w' => e=.returned (.tuple #[.int .i64 r1,.int .i64 r2])∧Below w.heap.size w w':=by
 unfold chkF at h
 split at h
 ·rename_i hs
  have hc:=check_any p l A c w hs.1 (ints_of_C hr) (i32B_ok hs.2)
  have e:=Option.some.inj h
  rw [e] at hc
  exact hc
 ·cases h
theorem dec_calls (p : Bt) (s : ByteArray) (r1 : List Int) (r2 r3 : Int) (w : World) (h : decF p s=some (r1,r2,r3)) (T : Tabs w) :
  Calls Tryd.prog 35 #[.agg (bootA p),.string s] w fun e w' => ∃ v0_ : Value,e=.returned (.tuple #[v0_,.int .i64 r2,.int .i64 r3])∧Kd.R (Kd.int .i32) 21 w' w.heap.size (fun _ => True) v0_ r1∧Below w.heap.size w w':=by
 unfold decF at h
 split at h
 ·rename_i hs
  have hc:=decode_any (okB_ok hs.1) s w hs.2 T
  have e:=Option.some.inj h
  rw [e] at hc
  refine hc.mono ?_
  rintro e w' ⟨v,rfl,ho,hb⟩
  exact ⟨v,rfl,R_of_nums ho,hb⟩
 ·cases h
end Go.Proofs.YtmjlkifmbhaiiaaDoor
