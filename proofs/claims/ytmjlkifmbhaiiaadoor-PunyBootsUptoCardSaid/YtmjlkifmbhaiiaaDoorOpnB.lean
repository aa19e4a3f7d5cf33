/- Opening an argument that is a struct of seven whole numbers and a byte. -/
import Derived.Test.YtmjlkifmbhaiiaaDoorOpu
set_option linter.unusedVariables false
set_option linter.unusedSimpArgs false
namespace Go.Proofs.YtmjlkifmbhaiiaaDoor
open Go.ChangeShapes Go.WideShapes Go.ChangeAt Go.RowKit Go.Proofs.YtmjlkifmbhaiiaaDoorW.PrintWords
theorem list8_of {α : Type} {l : List α} (h : l.length=8) : ∃ a b c d e f g i,l=[a,b,c,d,e,f,g,i]:=match l,h with
 | [a,b,c,d,e,f,g,i],_ => ⟨a,b,c,d,e,f,g,i,rfl⟩
theorem open_boot {P : Program} {W : World} {base : Nat} {H : Type} {enc : TypeId × Value→H} {t e u : TypeId} {f0 f1 f2 f3 f4 f5 f6 f7 : Field} {v : Value} {d : DataW H} {ps : List MemPlace} {held : Bool} {bs : Nat}
  (hs : P.underlying t=some (.struct #[f0,f1,f2,f3,f4,f5,f6,f7])) (ho0 : f0.offset=0) (ho1 : f1.offset=1) (ho2 : f2.offset=2) (ho3 : f3.offset=3) (ho4 : f4.offset=4) (ho5 : f5.offset=5) (ho6 : f6.offset=6) (ho7 : f7.offset=7) (h0 : f0.type=e) (h1 : f1.type=e) (h2 : f2.type=e) (h3 : f3.type=e) (h4 : f4.type=e) (h5 : f5.type=e) (h6 : f6.type=e) (h7 : f7.type=u)
  (he : P.underlying e=some (.int .i64)) (hu : P.underlying u=some (.int .u8)) (hcs : P.cellsOf t=8) (hce : P.cellsOf e=1) (hcu : P.cellsOf u=1)
  (hv : Value.okWide P W .any base t v) (h : DataW.Trod enc P W bs (fun _ => true) held t v d ps) :
  ∃ x0 x1 x2 x3 x4 x5 x6 x7 : Int,v=.agg #[.int .i64 x0,.int .i64 x1,.int .i64 x2,.int .i64 x3,.int .i64 x4,.int .i64 x5,.int .i64 x6,.int .u8 x7]∧0≤x7∧x7≤255:=by
 obtain ⟨cs,rfl,hsz,_⟩ : ∃ cs,v=.agg cs∧cs.size=P.cellsOf t∧Row.okWide P W .any base t cs:=by
  simpa [Value.okWide,hs] using hv
 rw [hcs] at hsz
 obtain ⟨l⟩:=cs
 obtain ⟨c0,c1,c2,c3,c4,c5,c6,c7,rfl⟩:=list8_of (l:=l) hsz
 obtain ⟨fuel,hf⟩:=h
 obtain ⟨xs,n,_,hx,hl,hlen,hg⟩:=DataW.trod_struct hs hf
 match xs,hlen with
 | [y0,y1,y2,y3,y4,y5,y6,y7],_ =>
  have g0:=hg 0 f0 rfl
  have g1:=hg 1 f1 rfl
  have g2:=hg 2 f2 rfl
  have g3:=hg 3 f3 rfl
  have g4:=hg 4 f4 rfl
  have g5:=hg 5 f5 rfl
  have g6:=hg 6 f6 rfl
  have g7:=hg 7 f7 rfl
  rw [ho0,h0,hce] at g0
  rw [ho1,h1,hce] at g1
  rw [ho2,h2,hce] at g2
  rw [ho3,h3,hce] at g3
  rw [ho4,h4,hce] at g4
  rw [ho5,h5,hce] at g5
  rw [ho6,h6,hce] at g6
  rw [ho7,h7,hcu] at g7
  obtain ⟨x0,e0,rfl,w0⟩:=DataW.trod_int he (by simpa using g0)
  obtain ⟨x1,e1,rfl,w1⟩:=DataW.trod_int he (by simpa using g1)
  obtain ⟨x2,e2,rfl,w2⟩:=DataW.trod_int he (by simpa using g2)
  obtain ⟨x3,e3,rfl,w3⟩:=DataW.trod_int he (by simpa using g3)
  obtain ⟨x4,e4,rfl,w4⟩:=DataW.trod_int he (by simpa using g4)
  obtain ⟨x5,e5,rfl,w5⟩:=DataW.trod_int he (by simpa using g5)
  obtain ⟨x6,e6,rfl,w6⟩:=DataW.trod_int he (by simpa using g6)
  obtain ⟨x7,e7,rfl,w7⟩:=DataW.trod_int hu (by simpa using g7)
  simp [Value.cells] at e0 e1 e2 e3 e4 e5 e6 e7
  subst e0 e1 e2 e3 e4 e5 e6 e7
  exact ⟨x0,x1,x2,x3,x4,x5,x6,x7,rfl,(wf_u8 w7).1,(wf_u8 w7).2⟩
end Go.Proofs.YtmjlkifmbhaiiaaDoor
