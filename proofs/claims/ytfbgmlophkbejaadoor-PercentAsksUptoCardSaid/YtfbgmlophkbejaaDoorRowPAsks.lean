/- PercentAsks, tied, where what it reads is of bulk at most 1048576: fields asked, set, taken out, put in order; what is handed in stays. -/
import Derived.Test.YtfbgmlophkbejaaDoorCards
import Derived.Test.YtfbgmlophkbejaaDoorTie
import Derived.Test.YtfbgmlophkbejaaDoorRows
import Derived.Test.YtfbgmlophkbejaaDoorBas
import Derived.ProofKit
import Derived.OpenShut
import Derived.ShutString
import Derived.ChangeOld
import Derived.SizedLaws
import Derived.Laws.IdiomArrays
import Derived.Deep.Strs
import Derived.ChangeSlices
import Derived.SliceStrings
import Derived.Test.YtfbgmlophkbejaaDoorLaidA
import Derived.Test.YtfbgmlophkbejaaDoorMaxA
import Derived.Test.YtfbgmlophkbejaaDoorOpnF
import Derived.Test.YtfbgmlophkbejaaDoorKyx
import Derived.JoinedCond
import Derived.Deep.DeepHandedRow
import Derived.Deep.DeepWitnessRowRef
set_option linter.unusedVariables false
set_option linter.unusedSimpArgs false
namespace Go.Proofs.YtfbgmlophkbejaaDoor.lawPercentAsksU
open Go.ChangeShapes Go.WideShapes Go.ChangeAt Go.RowKit
open Go.ChangeMaps (open_string shut_string)
theorem own : ownKnob Tryd.prog.godebug=none:=by kernel_rfl
theorem laidOut : laidOutB Tryd.prog=true:=by kernel_rfl
set_option maxRecDepth 100000 in
theorem step (H : Type) (enc : TypeId × Value→H) (W : World) (base : Nat) (args : Array Value) (ds gs : List (DataW H)) (before : List MemPlace)
  (hval : ∀ (j : Nat) t v,Tryd.f5.params[j]?=some t→args[j]?=some v→Value.okWide Tryd.prog W .any base t v)
  (hW : DataW.Whole enc Tryd.prog Tryd.f5.params.toList Rows.percentAsksSpec.vars false W args.toList ds gs before)
  (hk : Rows.uptoSmall H (ds++gs)=true) (hL : laidMetH Tryd.prog Rows.percentAsksUptoRow.laid W) (hS : W.ShapedOpen Tryd.prog) :
  Calls Tryd.prog 5 args W fun e W' => ∃ v,e=.returned v∧Rows.percentAsksSpec.post enc Tryd.prog Tryd.f5 false true false false W args v W':=by
 have hW':=hW
 have T:=tabs_of hL
 have M:=maxl_of hS
 have TM : TabM W:=⟨T,M⟩
 obtain ⟨p,q,hA0,hV,rfl,hfz,hnd⟩:=hW
 have hA : DataW.TrodAll enc Tryd.prog W 0 (fun _ => true) true Tryd.f5.params.toList args.toList ds p:=hA0
 rw [Tryd.params5] at hA hval
 obtain ⟨v0,vs0,d0,ds0,p0,q0,hargs,rfl,rfl,h0,r0⟩:=trodAll_cons hA
 obtain ⟨v1,vs1,d1,ds1,p1,q1,rfl,rfl,rfl,h1,r1⟩:=trodAll_cons r0
 obtain ⟨v2,vs2,d2,ds2,p2,q2,rfl,rfl,rfl,h2,r2⟩:=trodAll_cons r1
 obtain ⟨rfl,rfl,rfl⟩:=trodAll_nil r2
 obtain rfl : args=#[v0,v1,v2]:=by cases args;simp_all
 obtain ⟨rfl,rfl⟩:=trodVars_none hV
 have hbulk : Rows.uptoBulkAll ([d0,d1,d2]++[])≤1048576:=of_decide_eq_true hk
 simp only [List.append_nil,List.nil_append,List.cons_append,Rows.uptoBulkAll] at hbulk
 have k0:=h0
 have lt0 : ∀ x ∈ p0,x.block < W.heap.size:=by obtain ⟨m,hm⟩:=k0;exact DataW.trod_lt m _ _ _ hm
 obtain ⟨A0,a0,c0,rfl,R0,l0,b0⟩:=open_pairs Tryd.underlying30 Tryd.underlying46 (by kernel_rfl) (by kernel_rfl) (by kernel_rfl) (by rfl) (by rfl) (by kernel_rfl) (by kernel_rfl) (hval 0 30 v0 rfl rfl) h0
 obtain ⟨a1,rfl,rfl,rfl,z1⟩:=open_string Tryd.underlying9 (hval 1 9 v1 rfl rfl) h1
 have y1 : a1.size≤1048576:=by
  have e : a1.data.toList.length=a1.size:=by rw [Array.length_toList];rfl
  simp only [Rows.uptoBulk] at hbulk
  omega
 obtain ⟨a2,rfl,rfl,rfl,z2⟩:=open_string Tryd.underlying9 (hval 2 9 v2 rfl rfl) h2
 have y2 : a2.size≤1048576:=by
  have e : a2.data.toList.length=a2.size:=by rw [Array.length_toList];rfl
  simp only [Rows.uptoBulk] at hbulk
  omega
 clear hA0
 refine (FC.percentAsks_any a0 a1 a2 A0 c0 W R0 l0 (by omega) TM).mono fun e W' ⟨he,bel⟩ => ?_
 subst he
 exact ⟨_,rfl,_,_,_,[],_,[],hW',trodAll_mk1 (shut_bool Tryd.underlying4 _),(trodAll_cons_mk (Below.trod laidOut (by kernel_rfl) (of_decide_eq_true (by kernel_rfl)) k0 bel lt0) (trodAll_cons_mk (shut_string Tryd.underlying9 z1) (trodAll_cons_mk (shut_string Tryd.underlying9 z2) trodAll_mk0))),rfl,bel.frame _,fun h => by cases h⟩
set_option maxRecDepth 100000 in
set_option maxRecDepth 100000 in
theorem witness_row (os : Os) {H : Type} (enc : TypeId × Value→H) :
  (Rows.OpenSpec.upto Rows.percentAsksSpec).preRow enc Tryd.prog Tryd.f5 Rows.percentAsksUptoRow.domain false Rows.percentAsksUptoRow.laid ((laidWorld os).forCall (fun _ _ => 0) ⟨#[],#[.slice none 0 0,.string ByteArray.empty,.string ByteArray.empty],[]⟩).memory #[.slice none 0 0,.string ByteArray.empty,.string ByteArray.empty]:=by
 have hw : (DataW.whole enc Tryd.prog ((laidWorld os).forCall (fun _ _ => 0) ⟨#[],#[.slice none 0 0,.string ByteArray.empty,.string ByteArray.empty],[]⟩).memory Tryd.f5.params.toList Rows.percentAsksSpec.vars false (#[.slice none 0 0,.string ByteArray.empty,.string ByteArray.empty] : Array Value).toList 8).map (fun x => (x.1,x.2.1)) =
   some ([.nil,.lit (.string []),.lit (.string [])],[]):=by kernel_rfl
 obtain ⟨⟨x1,x2,x3⟩,hx,hx1⟩:=Option.map_eq_some_iff.1 hw
 simp only [Prod.mk.injEq] at hx1
 obtain ⟨rfl,rfl⟩:=hx1
 exact OpenSpec.preRow_of_cond 8 hx (by kernel_rfl) (fun k hk => by have e : @Rows.uptoSmall=@k:=Option.some.inj hk;exact e ▸ (show Rows.uptoSmall H ([.nil,.lit (.string []),.lit (.string [])]++[])=true by kernel_rfl)) (by kernel_rfl) (laid_met os _)
set_option maxRecDepth 100000 in
theorem lifted (os : Os) (started : os.Started) (H : Type) (enc : TypeId × Value→H) (F : Stop.Interp) :
  ReturnsInHanded {} Tryd.checked os 5 .any ((Rows.OpenSpec.upto Rows.percentAsksSpec).preRow enc Tryd.prog Tryd.f5 Rows.percentAsksUptoRow.domain false Rows.percentAsksUptoRow.laid) (((Rows.OpenSpec.upto Rows.percentAsksSpec).at F).post enc Tryd.prog Tryd.f5 false true false false):=by
 refine returnsInHanded_of_row (C:=Tryd.checked) (s:=Rows.OpenSpec.upto Rows.percentAsksSpec) own started (by kernel_rfl) Tryd.func5
  (witness_row_atRef (enc:=enc) (C:=Tryd.checked) false (laidWorld os) #[.slice none 0 0,.string ByteArray.empty,.string ByteArray.empty] rfl (by kernel_rfl) (by kernel_rfl) (by kernel_rfl) (witness_row os enc)) ?_
 intro W base args ds gs before hval hW _ hk _ hL hS _
 exact step H enc W base args ds gs before hval hW (hk _ rfl) hL hS
theorem over : Rows.percentAsksUptoRow.holds Tryd.pinned (Rows.OpenSpec.upto Rows.percentAsksSpec) :=
 OpenClaim.holds_of_cond 5 Tryd.f5 rfl rfl rfl rfl rfl rfl rfl ⟨rfl,rfl,rfl,rfl,rfl⟩ rfl rfl rfl rfl rfl (by kernel_rfl) Tryd.func5 (by kernel_rfl)
  (of_decide_eq_true (by kernel_rfl)) (by unfold Func.isWrapper;first|(rw [if_pos (by decide +kernel)];kernel_rfl)|(rw [if_neg (by decide +kernel)];exact ⟨rfl,rfl⟩))
  (fun os started H enc _ F => by rw [OpenClaim.pre_eq_preRow];exact lifted os started H enc F)
theorem plain (f : FuncId) (fn : Func) (hf : Tryd.pinned.checked.prog.funcNamed Rows.percentAsksUptoRow.func=some f) (hfn : Tryd.pinned.checked.prog.funcs[f]?=some fn) :
  false=Tryd.pinned.checked.prog.looks []∧∀ (j : Nat) t,fn.params[j]?=some t→Tryd.pinned.checked.prog.wantsStandIn t=false:=by
 obtain rfl : f=5:=Option.some.inj ((show Tryd.prog.funcNamed Rows.percentAsksUptoRow.func=some 5 by kernel_rfl).symm.trans hf) |>.symm
 obtain rfl : fn=Tryd.f5:=(Option.some.inj (Tryd.func5.symm.trans hfn)).symm
 refine ⟨by kernel_rfl,fun j t ht => ?_⟩
 have key : Tryd.f5.params.toList.all (fun t => Tryd.prog.wantsStandIn t == false)=true:=by kernel_rfl
 have hm : t ∈ Tryd.f5.params.toList:=Array.mem_toList_iff.2 (Array.mem_of_getElem? ht)
 exact beq_iff_eq.1 (List.all_eq_true.1 key t hm)
theorem proved : Rows.PercentAsksUptoCardSaid:=Claim7.holds_tied_plain_at .later [] _ _ _ _ over (fun _ h => by cases h) (by kernel_rfl) (fun _ h => by cases h) percentAsksUpto_row_tie rfl ⟨rfl,rfl⟩ (by kernel_rfl) rfl plain (by kernel_rfl)
#print axioms proved
end Go.Proofs.YtfbgmlophkbejaaDoor.lawPercentAsksU
