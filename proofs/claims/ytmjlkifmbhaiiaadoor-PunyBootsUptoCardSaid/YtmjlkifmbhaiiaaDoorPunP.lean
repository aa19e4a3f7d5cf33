/- Puny: what a bootstring says, and how one is written. Plain. -/
import Derived.Test.YtmjlkifmbhaiiaaDoorBas
set_option linter.unusedVariables false
set_option linter.unusedSimpArgs false
namespace Go.Proofs.YtmjlkifmbhaiiaaDoor
open Go.RowKit Go.Proofs.YtmjlkifmbhaiiaaDoorW.PrintWords Go.Proofs.YtmjlkifmbhaiiaaDoorW.PrintLast
structure Bt where
  base : Int
  least : Int
  most : Int
  skew : Int
  damp : Int
  bias : Int
  first : Int
  btw : Int
def dgu (c : Int) : Int:=if 97≤c∧c≤122 then c - 97 else if 65≤c∧c≤90 then c - 65 else if 48≤c∧c≤57 then c - 48 + 26 else -1
def dgt (p : Bt) (c : Int) : Int:=if dgu c < p.base then dgu c else -1
def ltr (d : Int) : Int:=if d < 26 then 97 + d else 48 + d - 26
def thr (p : Bt) (k b : Int) : Int:=if k - b < p.least then p.least else if k - b > p.most then p.most else k - b
structure Bt.Ok (p : Bt) : Prop where
  base0 : 3≤p.base
  base1 : p.base≤36
  least0 : 0≤p.least
  least1 : p.least≤p.most
  most0 : 1≤p.most
  most1 : p.most≤p.base - 2
  skew0 : 1≤p.skew
  skew1 : p.skew≤10000
  damp0 : 2≤p.damp
  damp1 : p.damp≤10000
  bias0 : 0≤p.bias
  bias1 : p.bias≤10000
  first0 : 1≤p.first
  first1 : p.first≤1114111
  btw0 : 33≤p.btw
  btw1 : p.btw≤126
  btw2 : p.btw < p.first
  btw3 : dgt p p.btw < 0
theorem thr_range {p : Bt} (h : p.Ok) (k b : Int) : p.least≤thr p k b∧thr p k b≤p.most:=by
  have:=h.least1
  unfold thr
  split
  · omega
  · split <;> omega
theorem thr_gap {p : Bt} (h : p.Ok) (k b : Int) : 0≤thr p k b∧2≤p.base - thr p k b∧p.base - thr p k b≤36:=by
  have:=thr_range h k b
  have:=h.most1
  have:=h.least0
  have:=h.base1
  omega
theorem dgu_range (c : Int) : -1≤dgu c∧dgu c≤35:=by
  unfold dgu
  repeat' split
  all_goals omega
theorem dgt_range {p : Bt} (c : Int) : -1≤dgt p c∧dgt p c≤35∧(0≤dgt p c→dgt p c < p.base):=by
  have:=dgu_range c
  unfold dgt
  split <;> omega
theorem dgu_ltr (d : Int) (h0 : 0≤d) (h1 : d < 36) : dgu (ltr d)=d:=by
  unfold dgu ltr
  repeat' split
  all_goals omega
theorem dgt_ltr {p : Bt} (h : p.Ok) (d : Int) (h0 : 0≤d) (h1 : d < p.base) : dgt p (ltr d)=d:=by
  have:=h.base1
  unfold dgt
  rw [dgu_ltr d h0 (by omega),if_pos h1]
theorem ltr_range (d : Int) (h0 : 0≤d) (h1 : d < 36) : 48≤ltr d∧ltr d≤122:=by unfold ltr;split <;> omega
def adpG (base span lim : Int) (delta k : Int) : Int × Int:=if h : lim < delta∧2≤span∧0≤lim then adpG base span lim (delta / span) (k + base) else (delta,k)
termination_by delta.toNat
decreasing_by
  have h1 : delta / span < delta:=Int.ediv_lt_self_of_pos_of_ne_one (by omega) (by omega)
  omega
def adpD (p : Bt) (delta pts : Int) (first : Bool) : Int:=(if first=true then delta / p.damp else delta / 2) + (if first=true then delta / p.damp else delta / 2) / pts
def adp (p : Bt) (delta pts : Int) (first : Bool) : Int :=
  let g:=adpG p.base (p.base - p.least) ((p.base - p.least) * p.most / 2) (adpD p delta pts first) 0
  g.2 + (p.base - p.least + 1) * g.1 / (g.1 + p.skew)
def num (p : Bt) (bias : Int) : List Int→Int→Int→Int→Int→Int × Int × Int × List Int
  | [],at_,i,w,k => (140,at_,i,[])
  | c :: l,at_,i,w,k =>
    if dgt p c < 0 then (140,at_,i,c :: l)
    else if 2147483647 < i + dgt p c * w then (142,at_,i + dgt p c * w,l)
    else if dgt p c < thr p k bias then (0,at_ + 1,i + dgt p c * w,l)
    else if 2147483647 < w * (p.base - thr p k bias) then (142,at_,i + dgt p c * w,l)
    else num p bias l (at_ + 1) (i + dgt p c * w) (w * (p.base - thr p k bias)) (k + p.base)
def scl (r : Int) : Bool:=decide ((0≤r∧r < 55296) ∨ (57343 < r∧r≤1114111))
def decG (p : Bt) : Nat→List Int→Int→List Int→Int→Int→Int→List Int × Int × Int
  | 0,_,_,_,_,_,_ => ([],0,0)
  | f + 1,l,at_,out,n,i,bias =>
    if l=[] then (out,0,0) else
    let r:=num p bias l at_ i 1 p.base
    if r.1 ≠ 0 then ([],r.2.1,r.1)
    else if 1114111 < n + r.2.2.1 / (out.length + 1) then ([],r.2.1 - 1,142)
    else if scl (n + r.2.2.1 / (out.length + 1))=false then ([],r.2.1 - 1,143)
    else decG p f r.2.2.2 r.2.1 (out.take (r.2.2.1 % (out.length + 1)).toNat++(n + r.2.2.1 / (out.length + 1)) :: out.drop (r.2.2.1 % (out.length + 1)).toNat) (n + r.2.2.1 / (out.length + 1)) (r.2.2.1 % (out.length + 1) + 1) (adp p (r.2.2.1 - i) (out.length + 1) (i == 0))
def fstB (f : Int→Bool) : List Int→Int→Int
  | [],_ => -1
  | x :: l,i => if f x then i else fstB f l (i + 1)
def bas (p : Bt) (r : Int) : Bool:=decide (r < p.first∧r < 128)
def lastP (b : Int) : List Int→Int→Int→Int
  | [],_,a => a
  | c :: l,i,a => lastP b l (i + 1) (if c=b then i else a)
def dec (p : Bt) (s : List Int) : List Int × Int × Int :=
  if 0 < lastP p.btw s 0 0 then
    (if 0≤fstB (fun b => !bas p b) (s.take (lastP p.btw s 0 0).toNat) 0 then ([],fstB (fun b => !bas p b) (s.take (lastP p.btw s 0 0).toNat) 0,141)
     else decG p (s.length + 1) (s.drop (lastP p.btw s 0 0 + 1).toNat) (lastP p.btw s 0 0 + 1) (s.take (lastP p.btw s 0 0).toNat) p.first 0 p.bias)
  else decG p (s.length + 1) s 0 [] p.first 0 p.bias
def wrt (p : Bt) (bias : Int) : Nat→Int→Int→List Int
  | 0,_,_ => []
  | f + 1,q,k => if q < thr p k bias then [ltr q] else ltr (thr p k bias + (q - thr p k bias) % (p.base - thr p k bias)) :: wrt p bias f ((q - thr p k bias) / (p.base - thr p k bias)) (k + p.base)
def scan (p : Bt) (n basic : Int) : List Int→List Int→Int→Int→Int→Option (List Int × Int × Int × Int)
  | [],out,delta,bias,h => some (out,delta,bias,h)
  | r :: l,out,delta,bias,h =>
    if r < n then (if 2147483647 < delta + 1 then none else scan p n basic l out (delta + 1) bias h)
    else if r=n then scan p n basic l (out++wrt p bias 1000000 delta p.base) 0 (adp p delta (h + 1) (h == basic)) (h + 1)
    else scan p n basic l out delta bias h
def nxtM (n : Int) : List Int→Int→Int
  | [],m => m
  | r :: l,m => nxtM n l (if n≤r∧r < m then r else m)
def encG (p : Bt) (basic : Int) (l : List Int) : Nat→List Int→Int→Int→Int→Int→Option (List Int)
  | 0,_,_,_,_,_ => none
  | f + 1,out,n,delta,bias,h =>
    if (l.length : Int)≤h then some out
    else if 2147483647 < delta + (nxtM n l 1114112 - n) * (h + 1) then none
    else match scan p (nxtM n l 1114112) basic l out (delta + (nxtM n l 1114112 - n) * (h + 1)) bias h with
      | none => none
      | some (out,delta,bias,h) => encG p basic l f out (nxtM n l 1114112 + 1) (delta + 1) bias h
def odd (p : Bt) (r : Int) : Bool:=decide (r < p.first) && !decide (r < 128)
def chk (p : Bt) (l : List Int) : Int × Int :=
  if 0≤fstB (fun r => !scl r) l 0 then (fstB (fun r => !scl r) l 0,20)
  else if 0≤fstB (odd p) l 0 then (fstB (odd p) l 0,141) else (0,0)
def enc (p : Bt) (l : List Int) : List Int × Int × Int :=
  if (chk p l).2 ≠ 0 then ([],(chk p l).1,(chk p l).2)
  else
    match encG p (l.filter (bas p)).length l (l.length + 1) (if l.filter (bas p)=[] then [] else l.filter (bas p)++[p.btw]) p.first 0 p.bias (l.filter (bas p)).length with
    | none => ([],0,142)
    | some out => if (dec p out).2.2=0 then (out,0,0) else ([],0,142)
theorem fstB_ge (f : Int→Bool) (l : List Int) : ∀ i : Int,0≤i→(fstB f l i=-1 ∨ i≤fstB f l i):=by
  induction l with
  | nil => intro i _;left;rfl
  | cons x l ih =>
    intro i hi
    unfold fstB
    split
    · right;omega
    · have:=ih (i + 1) (by omega);omega
theorem fstB_none (f : Int→Bool) (l : List Int) : ∀ i : Int,0≤i→((0≤fstB f l i) ↔ ∃ x ∈ l,f x=true):=by
  induction l with
  | nil => intro i _;simp [fstB]
  | cons x l ih =>
    intro i hi
    unfold fstB
    split
    · exact ⟨fun _ => ⟨x,List.mem_cons_self ..,‹_›⟩,fun _ => hi⟩
    · rw [ih (i + 1) (by omega)]
      constructor
      · rintro ⟨y,hy,h⟩;exact ⟨y,List.mem_cons_of_mem _ hy,h⟩
      · rintro ⟨y,hy,h⟩
        rcases List.mem_cons.1 hy with rfl|hy
        · exact absurd h ‹_›
        · exact ⟨y,hy,h⟩
theorem fstB_drop {f : Int→Bool} {l : List Int} {k : Nat} (h : k < l.length) (i : Int) : fstB f (l.drop k) i=if f (rd l k) then i else fstB f (l.drop (k + 1)) (i + 1):=by
  rw [List.drop_eq_getElem_cons h]
  have hg : rd l k=l[k]:=by simp [rd,List.getD_eq_getElem?_getD,List.getElem?_eq_getElem h]
  rw [hg]
  rfl
end Go.Proofs.YtmjlkifmbhaiiaaDoor
