/- Reading a grammar's text. What is read may be. What is shown is read as it was. What is shown is read as it was. What is shown is read as it was. The shelf's contracts of strings. Tokens of a grammar's text. Tokens of a grammar's text. -/
import Derived.Test.YthaacmablcpdfaaGreatDoorZab
import Derived.Lib.Index
import Derived.Shelf.Strings.Search1
import Derived.Shelf.Strings.Search2
import Derived.Shelf.Strings.Search3
import Derived.Shelf.LaysM
import Derived.Shelf.Strings.Shaped
import Derived.Shelf.Strings.Prefix
import Derived.Test.YthaacmablcpdfaaGreatDoorProg
import Derived.Test.YthaacmablcpdfaaGreatDoorZae
import Derived.WalkSpells
import Derived.Test.YthaacmablcpdfaaGreatDoorNm
namespace Go.Proofs.YthaacmablcpdfaaGreatDoor
open Go.RowKit
set_option linter.unusedVariables false
structure Tk where
 k:Nat
 s:List UInt8
 p:Nat
abbrev Flt:=Nat×Nat
def whiteB(c:UInt8):Bool:=c==32||c==9||c==10||c==13
def letB(c:UInt8):Bool:=classOf c==4||classOf c==3
def spanBy(p:UInt8→Bool)(l:List UInt8):Nat:=(l.takeWhile p).length
def quoteL(sz p:Nat)(r:List UInt8):Except Flt (Nat×Nat):=
 if sz≤p+1+spanL r then .error (4,sz) else if r[spanL r]?≠some 39∨spanL r=0 then .error (2,p+1+spanL r) else if 24≤1+spanL r then .error (5,p) else .ok (2,spanL r+2)
def commentL(sz p:Nat)(r:List UInt8):Except Flt (Nat×Nat):=
 if r.head?=some 42 then(if Lib.index (r.drop 1) [42,47]<0 then .error (4,sz) else .ok (0,(Lib.index (r.drop 1) [42,47]).toNat+4)) else .error (2,p)
def markL(p:Nat)(r:List UInt8):Except Flt (Nat×Nat):=
 if r.head?=some 37 then .ok (6,2)
 else if r.take (spanBy letB r)=[116,111,107,101,110] then .ok (7,1+spanBy letB r)
 else if r.take (spanBy letB r)=[115,116,97,114,116] then .ok (8,1+spanBy letB r) else .error (2,p)
def signL(c:UInt8):Nat:=if c=58 then 3 else if c=124 then 4 else if c=59 then 5 else 0
def oneL(sz p:Nat):List UInt8→Except Flt (Nat×Nat)
 | []=>.ok (0,0)
 | c::r=>
  if whiteB c then .ok (0,spanBy whiteB (c::r))
  else if c=47 then commentL sz p r
  else if c=39 then quoteL sz p r
  else if c=37 then markL p r
  else if classOf c=4 then(if 24<spanBy letB (c::r) then .error (5,p) else .ok (1,spanBy letB (c::r)))
  else if signL c≠0 then .ok (signL c,1) else .error (2,p)
def toksL(sz:Nat):Nat→Nat→List UInt8→Except Flt (List Tk)
 | 0,_,_=>.error (0,0)
 | f+1,p,l=>
  if l.isEmpty then .ok [⟨0,[],sz⟩] else
  match oneL sz p l with
  | .error e=>.error e
  | .ok (k,n)=>(match toksL sz f (p+n) (l.drop n) with
   | .error e=>.error e
   | .ok ts=>.ok (if k=0 then ts else⟨k,l.take n,p⟩::ts))
def tokens(l:List UInt8):Except Flt (List Tk):=if 8192<l.length then .error (5,0) else toksL l.length (l.length+1) 0 l
structure PS where
 l:List Tk
 p:Nat
structure PR where
 left:Tk
 sides:List PS
structure Txt where
 decl:List Tk
 marks:List Nat
 starts:List Tk
 rules:List PR
def symT(t:Tk):Bool:=t.k==1||t.k==2
def badT:List Tk→Flt
 | t::_=>(if t.k=0 then 4 else 3,t.p)
 | []=>(0,0)
def isK(k:Nat):List Tk→Bool
 | t::_=>t.k==k
 | []=>false
def placeT:List Tk→Nat
 | t::_=>t.p
 | []=>0
def headL(x:Txt):List Tk→Except Flt (Txt×List Tk)
 | []=>.error (0,0)
 | t::r=>
  if t.k=7 then(if (r.takeWhile symT).isEmpty then .error (badT r) else .ok ({x with decl:=x.decl++r.takeWhile symT},r.dropWhile symT))
  else if t.k=8 then(if isK 1 r then .ok ({x with marks:=x.marks++[t.p],starts:=x.starts++r.take 1},r.drop 1) else .error (badT r))
  else .error (badT (t::r))
def headsL:Nat→Txt→List Tk→Except Flt (Txt×List Tk)
 | 0,_,_=>.error (0,0)
 | f+1,x,l=>if isK 6 l then .ok (x,l.drop 1) else
  match headL x l with
  | .error e=>.error e
  | .ok (x',l')=>headsL f x' l'
def sideL(l:List Tk):PS:=⟨l.takeWhile symT,placeT l⟩
def sidesL:Nat→List PS→List Tk→List PS×List Tk
 | 0,a,l=>(a,l)
 | f+1,a,l=>if isK 4 l then sidesL f (a++[sideL (l.drop 1)]) ((l.drop 1).dropWhile symT) else(a,l)
def oneR:List Tk→Except Flt (PR×List Tk)
 | []=>.error (0,0)
 | t::r=>
  if t.k≠1 then .error (badT (t::r)) else if isK 3 r then
   (
    if isK 5 (sidesL r.length [sideL (r.drop 1)] ((r.drop 1).dropWhile symT)).2 then
     .ok (⟨t,(sidesL r.length [sideL (r.drop 1)] ((r.drop 1).dropWhile symT)).1⟩,(sidesL r.length [sideL (r.drop 1)] ((r.drop 1).dropWhile symT)).2.drop 1)
    else .error (badT (sidesL r.length [sideL (r.drop 1)] ((r.drop 1).dropWhile symT)).2))
  else .error (badT r)
def moreR:Nat→List PR→List Tk→Except Flt (List PR)
 | 0,_,_=>.error (0,0)
 | f+1,a,l=>if isK 0 l then .ok a else
  match oneR l with
  | .error e=>.error e
  | .ok (r,l')=>moreR f (a++[r]) l'
def formL(l:List Tk):Except Flt Txt:=
 match headsL (l.length+1) ⟨[],[],[],[]⟩ l with
 | .error e=>.error e
 | .ok (x,l1)=>
  match oneR l1 with
  | .error e=>.error e
  | .ok (r,l2)=>
   match moreR (l.length+1) [r] l2 with
   | .error e=>.error e
   | .ok rs=>.ok {x with rules:=rs}
abbrev Nme:=List UInt8
structure Bd where
 T:List Nme
 N:List Nme
 R:List (List Nme)
def leftOf(x:Txt)(s:Nme):Bool:=x.rules.any fun r=>r.left.s==s
def declT(T:List Nme)(t:Tk):Except Flt (List Nme):=if T.contains t.s then .error (8,t.p) else if 120≤T.length then .error (7,t.p) else .ok (T++[t.s])
def startT(lf:Nme→Bool)(st:Tk):Except Flt Unit:=if lf st.s then .ok () else .error (9,st.p)
def declL(lf:Nme→Bool):Option (Nat×Tk)→List Tk→List Nme→Except Flt (List Nme)
 | none,[],T=>.ok T
 | some (_,st),[],T=>(match startT lf st with | .error e=>.error e | .ok _=>.ok T)
 | none,t::r,T=>(match declT T t with | .error e=>.error e | .ok T'=>declL lf none r T')
 | some (m,st),t::r,T=>
  if m<t.p then(match startT lf st with | .error e=>.error e | .ok _=>(match declT T t with | .error e=>.error e | .ok T'=>declL lf none r T'))
  else(match declT T t with | .error e=>.error e | .ok T'=>declL lf (some (m,st)) r T')
def secondL:List Nat→Nat
 | _::m::_=>m
 | _=>8193
def markT(x:Txt):Option (Nat×Tk):=match x.marks,x.starts with|m::_,st::_=>some (m,st)|_,_=>none
def headsB(x:Txt):Except Flt (List Nme):=
 match declL (leftOf x) (markT x) x.decl [] with
 | .ok T=>if secondL x.marks≤8192 then .error (8,secondL x.marks) else .ok T
 | .error e=>if secondL x.marks≤8192∧secondL x.marks<e.2 then .error (8,secondL x.marks) else .error e
def leftB(D:Nat)(b:Bd)(t:Tk):Except Flt Bd:=
 if (b.T.take D).contains t.s then .error (8,t.p) else if b.N.contains t.s then .ok b else if 120≤b.N.length then .error (7,t.p) else .ok {b with N:=b.N++[t.s]}
def symbolB(lf:Nme→Bool)(b:Bd)(t:Tk)(k:Nat):Except Flt Bd:=
 if 8≤k then .error (7,t.p) else if b.T.contains t.s then .ok b
 else if t.k=2 then(if 120≤b.T.length then .error (7,t.p) else .ok {b with T:=b.T++[t.s]})
 else if lf t.s then .ok b else .error (9,t.p)
def symsB(lf:Nme→Bool):Bd→Nat→List Tk→Except Flt Bd
 | b,_,[]=>.ok b
 | b,k,t::r=>match symbolB lf b t k with | .error e=>.error e | .ok b'=>symsB lf b' (k+1) r
def sideB(lf:Nme→Bool)(b:Bd)(left:Nme)(s:PS):Except Flt Bd:=
 if 300≤b.R.length then .error (7,s.p) else
 match symsB lf b 0 s.l with
 | .error e=>.error e
 | .ok b'=>if b'.R.contains (left::s.l.map Tk.s) then .error (8,s.p) else .ok {b' with R:=b'.R++[left::s.l.map Tk.s]}
def sidesB(lf:Nme→Bool)(left:Nme):Bd→List PS→Except Flt Bd
 | b,[]=>.ok b
 | b,s::r=>match sideB lf b left s with | .error e=>.error e | .ok b'=>sidesB lf left b' r
def ruleB(lf:Nme→Bool)(D:Nat)(b:Bd)(r:PR):Except Flt Bd:=
 match leftB D b r.left with | .error e=>.error e | .ok b'=>sidesB lf r.left.s b' r.sides
def rulesB(lf:Nme→Bool)(D:Nat):Bd→List PR→Except Flt Bd
 | b,[]=>.ok b
 | b,r::l=>match ruleB lf D b r with | .error e=>.error e | .ok b'=>rulesB lf D b' l
def findL(T N:List Nme)(s:Nme):Nat:=if T.contains s then T.idxOf s+1 else if N.contains s then T.length+N.idxOf s+1 else 0
structure PG where
 T:List Nme
 N:List Nme
 s:Nat
 R:List (Nat×List Nat)
def ruleL2(T N:List Nme):List Nme→Nat×List Nat
 | []=>(0,[])
 | a::l=>(findL T N a,l.map (findL T N))
def gramL(x:Txt)(b:Bd):PG:=
 {T:=b.T,N:=b.N,s:=match x.starts with|[]=>b.T.length+1|st::_=>findL b.T b.N st.s,R:=b.R.map (ruleL2 b.T b.N)}
def buildL(x:Txt):Except Flt PG:=
 match headsB x with
 | .error e=>.error e
 | .ok T=>match rulesB (leftOf x) T.length ⟨T,[],[]⟩ x.rules with
  | .error e=>.error e
  | .ok b=>.ok (gramL x b)
def parseL(s:List UInt8):Except Flt PG:=
 match tokens s with
 | .error e=>.error e
 | .ok l=>match formL l with
  | .error e=>.error e
  | .ok x=>buildL x
structure BInv(lf:Nme→Bool)(D:Nat)(b:Bd):Prop where
 i1:b.T.length≤120
 i2:b.N.length≤120
 i3:b.R.length≤300
 i4:b.T.Nodup
 i5:b.N.Nodup
 i6:∀s∈b.T,(okName s||quotedB s)=true
 i7:∀s∈b.N,okName s=true
 i8:∀s∈b.T.drop D,quotedB s=true
 i9:∀s∈b.N,s ∉ b.T.take D
 i0:D≤b.T.length
 i10:∀r∈b.R,∃a l,r=a::l∧a∈b.N∧l.length≤8∧∀c∈l,c∈b.T∨lf c=true
 i11:b.R.Nodup
structure BOrd(R:List (List Nme))(N:List Nme):Prop where
 mem:∀a∈N,∃r∈R,r.head?=some a
 ord:∀i j:Nat,i<j→∀a c,N[i]?=some a→N[j]?=some c→R.findIdx (fun r=>r.head?==some a)<R.findIdx (fun r=>r.head?==some c)
def Tk.okay(t:Tk):Prop:=(t.k=1→okName t.s=true)∧(t.k=2→quotedB t.s=true)
theorem findIdx_append_of_mem{α:Type}{p:α→Bool}{l r:List α}(h:∃x∈l,p x=true):(l++r).findIdx p=l.findIdx p:=by have hlt:l.findIdx p<l.length:=List.findIdx_lt_length_of_exists h;rw[List.findIdx_append];simp[hlt]
theorem BOrd.old{R:List (List Nme)}{N:List Nme}(h:BOrd R N)(r:List Nme):BOrd (R++[r]) N where
 mem a ha:=by obtain⟨x,hx,h2⟩:=h.mem a ha;exact⟨x,List.mem_append_left _ hx,h2⟩
 ord i j hij a c ha hc:=by
  have e:∀a∈N,(R++[r]).findIdx (fun r=>r.head?==some a)=R.findIdx (fun r=>r.head?==some a):=fun a ha=>findIdx_append_of_mem (by obtain⟨x,hx,h2⟩:=h.mem a ha;exact⟨x,hx,by simp[h2]⟩)
  rw[e a (mG ha),e c (mG hc)];exact h.ord i j hij a c ha hc
theorem BOrd.fresh{R:List (List Nme)}{N:List Nme}(h:BOrd R N)(a:Nme)(l:List Nme)(ha:a ∉ N)(hR:∀r∈R,∃c l,r=c::l∧c∈N):BOrd (R++[a::l]) (N++[a]) where
 mem c hc:=by
  rcases mA.1 hc with hc|hc
  ·obtain⟨x,hx,h2⟩:=h.mem c hc;exact⟨x,List.mem_append_left _ hx,h2⟩
  ·rw[mS.1 hc];exact⟨a::l,by simp,rfl⟩
 ord i j hij c d hc hd:=by
  have hjl:j<(N++[a]).length:=(sG.1 hd).1;simp at hjl;have hc':N[i]?=some c:=by rw[gL (by omega)]at hc;exact hc
  have e:(R++[a::l]).findIdx (fun r=>r.head?==some c)=R.findIdx (fun r=>r.head?==some c):=findIdx_append_of_mem (by obtain⟨x,hx,h2⟩:=h.mem c (mG hc');exact⟨x,hx,by simp[h2]⟩);have hlt:R.findIdx (fun r=>r.head?==some c)<R.length:=List.findIdx_lt_length_of_exists (by obtain⟨x,hx,h2⟩:=h.mem c (mG hc');exact⟨x,hx,by simp[h2]⟩);rw[e];by_cases hj:j<N.length
  ·have hd':N[j]?=some d:=by rw[gL hj]at hd;exact hd
   rw[findIdx_append_of_mem (by obtain⟨x,hx,h2⟩:=h.mem d (mG hd');exact⟨x,hx,by simp[h2]⟩)];exact h.ord i j hij c d hc' hd'
  ·obtain rfl:j=N.length:=by omega
   have:d=a:=by simp at hd;exact hd.symm
   subst this;have hn:R.findIdx (fun r=>r.head?==some d)=R.length:=by rw[List.findIdx_eq_length];intro x hx;obtain⟨c',l',rfl,hcn⟩:=hR x hx;simp;rintro rfl;exact ha hcn
   rw[List.findIdx_append,hn];simp;exact h.mem c (mG hc')
theorem BInv.left{lf:Nme→Bool}{D:Nat}{b b':Bd}{t:Tk}(h:BInv lf D b)(ht:okName t.s=true)(he:leftB D b t=.ok b'):BInv lf D b'∧t.s∈b'.N∧b'.T=b.T∧b'.R=b.R∧(b'.N=b.N∨(t.s ∉ b.N∧b'.N=b.N++[t.s])):=by
 unfold leftB at he;split at he
 ·cases he
 rename_i h1;split at he
 ·rename_i h2
  injection he with he;subst he;exact⟨h,by simpa using h2,rfl,rfl,.inl rfl⟩
 rename_i h2;split at he
 ·cases he
 rename_i h3;injection he with he;subst he;have h2':t.s ∉ b.N:=by simpa using h2
 have h1':t.s ∉ b.T.take D:=by simpa using h1
 refine⟨⟨h.i1,by simp;omega,h.i3,h.i4,?_,h.i6,?_,h.i8,?_,h.i0,?_,h.i11⟩,by simp,rfl,rfl,.inr ⟨h2',rfl⟩⟩
 ·rw[List.nodup_append]
  refine⟨h.i5,by simp,?_⟩;intro a ha c hc;rw[mS.1 hc];rintro rfl;exact h2' ha
 ·intro s hs
  rcases mA.1 hs with hs|hs
  ·exact h.i7 s hs
  ·rw[mS.1 hs];exact ht
 ·intro s hs
  rcases mA.1 hs with hs|hs
  ·exact h.i9 s hs
  ·rw[mS.1 hs];exact h1'
 ·intro r hr
  obtain⟨a,l,e,ha,hl,hc⟩:=h.i10 r hr;exact⟨a,l,e,List.mem_append_left _ ha,hl,hc⟩
theorem BInv.symbol{lf:Nme→Bool}{D:Nat}{b b':Bd}{t:Tk}{k:Nat}(h:BInv lf D b)(ht:t.okay)(he:symbolB lf b t k=.ok b'):BInv lf D b'∧k<8∧(t.s∈b'.T∨lf t.s=true)∧b'.N=b.N∧b'.R=b.R∧(∀s∈b.T,s∈b'.T):=by
 unfold symbolB at he;split at he
 ·cases he
 rename_i h0;split at he
 ·rename_i h1
  injection he with he;subst he;exact⟨h,by omega,.inl (by simpa using h1),rfl,rfl,fun _ h=>h⟩
 rename_i h1;have h1':t.s ∉ b.T:=by simpa using h1
 split at he
 ·rename_i h2
  split at he
  ·cases he
  rename_i h3;injection he with he;subst he;refine⟨⟨by simp;omega,h.i2,h.i3,?_,h.i5,?_,h.i7,?_,?_,by simp;have:=h.i0;omega,?_,h.i11⟩,by omega,.inl (by simp),rfl,rfl,fun s hs=>List.mem_append_left _ hs⟩
  ·rw[List.nodup_append]
   refine⟨h.i4,by simp,?_⟩;intro a ha c hc;rw[mS.1 hc];rintro rfl;exact h1' ha
  ·intro s hs
   rcases mA.1 hs with hs|hs
   ·exact h.i6 s hs
   ·rw[mS.1 hs,ht.2 h2];simp
  ·intro s hs
   rw[List.drop_append_of_le_length h.i0]at hs;rcases mA.1 hs with hs|hs
   ·exact h.i8 s hs
   ·rw[mS.1 hs];exact ht.2 h2
  ·intro s hs
   show s ∉ (b.T++[t.s]).take D;rw[List.take_append_of_le_length h.i0];exact h.i9 s hs
  ·intro r hr
   obtain⟨a,l,e,ha,hl,hc⟩:=h.i10 r hr;exact⟨a,l,e,ha,hl,fun c hcl=>(hc c hcl).imp (fun hh=>List.mem_append_left _ hh) id⟩
 ·split at he
  ·rename_i h3
   injection he with he;subst he;exact⟨h,by omega,.inr h3,rfl,rfl,fun _ h=>h⟩
  ·cases he
theorem BInv.syms{lf:Nme→Bool}{D:Nat}:∀(l:List Tk) {b b':Bd} {k:Nat},BInv lf D b→(∀t∈l,t.okay)→symsB lf b k l=.ok b' →
  BInv lf D b'∧(l=[]∨k+l.length≤8)∧(∀t∈l,t.s∈b'.T∨lf t.s=true)∧b'.N=b.N∧b'.R=b.R∧(∀s∈b.T,s∈b'.T)
 | [],b,b',k,h,_,he=>by simp only[symsB]at he;injection he with he;subst he;exact⟨h,.inl rfl,by simp,rfl,rfl,fun _ h=>h⟩
 | t::r,b,b',k,h,hr,he=>by
  simp only[symsB]at he;cases hs:symbolB lf b t k with
  | error e=>rw[hs]at he;cases he
  | ok b1=>
   rw[hs]at he;obtain⟨g1,g2,g3,g4,g5,g6⟩:=h.symbol (hr t (by simp)) hs;obtain⟨q1,q2,q3,q4,q5,q6⟩:=BInv.syms r g1 (fun t ht=>hr t (by simp[ht])) he;refine⟨q1,.inr ?_,?_,q4.trans g4,q5.trans g5,fun s hs=>q6 s (g6 s hs)⟩
   ·rcases q2 with rfl|q2
    ·simp;omega
    ·simp;omega
   ·intro u hu
    rcases List.mem_cons.1 hu with rfl|hu
    ·exact g3.imp (q6 _) id
    ·exact q3 u hu
theorem BInv.side{lf:Nme→Bool}{D:Nat}{b b':Bd}{left:Nme}{s:PS}(h:BInv lf D b)(hl:left∈b.N)(hs:∀t∈s.l,t.okay)(he:sideB lf b left s=.ok b') :
  BInv lf D b'∧b'.N=b.N∧b'.R=b.R++[left::s.l.map Tk.s]:=by
 unfold sideB at he;split at he
 ·cases he
 rename_i h0;cases hq:symsB lf b 0 s.l with
 | error e=>rw[hq]at he;cases he
 | ok b1=>
  rw[hq]at he;simp only at he;split at he
  ·cases he
  rename_i h2;injection he with he;subst he;obtain⟨q1,q2,q3,q4,q5,q6⟩:=h.syms s.l hs hq;have h2':left::s.l.map Tk.s ∉ b1.R:=by simpa using h2
  refine⟨⟨q1.i1,q1.i2,by simp;rw[q5];omega,q1.i4,q1.i5,q1.i6,q1.i7,q1.i8,q1.i9,q1.i0,?_,?_⟩,q4,by rw[←q5]⟩
  ·intro r hr
   rcases mA.1 hr with hr|hr
   ·exact q1.i10 r hr
   ·rw[mS.1 hr]
    refine⟨left,_,rfl,by rw[q4];exact hl,?_,?_⟩
    ·rcases q2 with e|q2
     ·rw[e];simp
     ·simp;omega
    ·intro c hc
     obtain⟨t,ht,rfl⟩:=List.mem_map.1 hc;exact q3 t ht
  ·rw[List.nodup_append]
   refine⟨q1.i11,by simp,?_⟩;intro a ha c hc;rw[mS.1 hc];rintro rfl;exact h2' ha
def BOrd1(b:Bd)(left:Nme):Prop:=(BOrd b.R b.N∧left∈b.N)∨∃N0,b.N=N0++[left]∧left ∉ N0∧BOrd b.R N0∧∀r∈b.R,∃c l,r=c::l∧c∈N0
theorem BInv.sides{lf:Nme→Bool}{D:Nat}{left:Nme}:∀(l:List PS) {b b':Bd},BInv lf D b→BOrd1 b left→(∀s∈l,∀t∈s.l,t.okay)→sidesB lf left b l=.ok b' →
  BInv lf D b'∧b'.N=b.N∧(l≠[]→BOrd b'.R b'.N)∧BOrd1 b' left
 | [],b,b',h,ho,_,he=>by simp only[sidesB]at he;injection he with he;subst he;exact⟨h,rfl,fun h=>absurd rfl h,ho⟩
 | s::r,b,b',h,ho,hs,he=>by
  simp only[sidesB]at he;cases hq:sideB lf b left s with
  | error e=>rw[hq]at he;cases he
  | ok b1=>
   rw[hq]at he;have hleft:left∈b.N:=by
    rcases ho with⟨_,h1⟩|⟨N0,h1,_⟩
    ·exact h1
    ·rw[h1];simp
   obtain⟨g1,g2,g3⟩:=h.side hleft (hs s (by simp)) hq;have ho1:BOrd b1.R b1.N:=by
    rw[g3,g2];rcases ho with⟨h1,h2⟩|⟨N0,h1,h2,h3,h4⟩
    ·exact h1.old _
    ·rw[h1];exact h3.fresh left _ h2 h4
   have ho2:BOrd1 b1 left:=.inl ⟨ho1,by rw[g2];exact hleft⟩;obtain⟨q1,q2,q3,q4⟩:=BInv.sides r g1 ho2 (fun s hs'=>hs s (by simp[hs'])) he;refine⟨q1,q2.trans g2,fun _=>?_,q4⟩;by_cases hr:r=[]
   ·subst hr
    simp only[sidesB]at he;injection he with he;subst he;exact ho1
   ·exact q3 hr
theorem BInv.rule{lf:Nme→Bool}{D:Nat}{r:PR}{b b':Bd}(h:BInv lf D b)(ho:BOrd b.R b.N)(hk:okName r.left.s=true)(hs:∀s∈r.sides,∀t∈s.l,t.okay)(hne:r.sides≠[])(he:ruleB lf D b r=.ok b') :
  BInv lf D b'∧BOrd b'.R b'.N∧(∀s∈b.N,s∈b'.N)∧r.left.s∈b'.N:=by
 unfold ruleB at he;cases hq:leftB D b r.left with
 | error e=>rw[hq]at he;cases he
 | ok b1=>
  rw[hq]at he;obtain⟨g1,g2,g3,g4,g5⟩:=h.left hk hq;have ho1:BOrd1 b1 r.left.s:=by
   rcases g5 with g5|⟨g5,g6⟩
   ·exact .inl ⟨by rw[g4,g5];exact ho,g2⟩
   ·refine .inr ⟨b.N,g6,g5,by rw[g4];exact ho,?_⟩
    rw[g4];intro r' hr';obtain⟨a,l,e,ha,_⟩:=h.i10 r' hr';exact⟨a,l,e,ha⟩
  obtain⟨q1,q2,q3,_⟩:=g1.sides r.sides ho1 hs he;refine⟨q1,q3 hne,fun s hs=>?_,by rw[q2];exact g2⟩;rw[q2];rcases g5 with g5|⟨_,g6⟩
  ·rw[g5];exact hs
  ·rw[g6];exact List.mem_append_left _ hs
def PR.okay(r:PR):Prop:=okName r.left.s=true∧(∀s∈r.sides,∀t∈s.l,t.okay)∧r.sides≠[]
theorem BInv.rules{lf:Nme→Bool}{D:Nat}:∀(l:List PR) {b b':Bd},BInv lf D b→BOrd b.R b.N→(∀r∈l,r.okay)→rulesB lf D b l=.ok b' →
  BInv lf D b'∧BOrd b'.R b'.N∧(∀s∈b.N,s∈b'.N)∧∀r∈l,r.left.s∈b'.N
 | [],b,b',h,ho,_,he=>by simp only[rulesB]at he;injection he with he;subst he;exact⟨h,ho,fun _ h=>h,by simp⟩
 | r::l,b,b',h,ho,hs,he=>by
  simp only[rulesB]at he;cases hq:ruleB lf D b r with
  | error e=>rw[hq]at he;cases he
  | ok b1=>
   rw[hq]at he;obtain⟨k1,k2,k3⟩:=hs r (by simp);obtain⟨g1,g2,g3,g4⟩:=h.rule ho k1 k2 k3 hq;obtain⟨q1,q2,q3,q4⟩:=BInv.rules l g1 g2 (fun r hr=>hs r (by simp[hr])) he;refine⟨q1,q2,fun s hs=>q3 s (g3 s hs),fun r' hr'=>?_⟩;rcases List.mem_cons.1 hr' with rfl|hr'
   ·exact q3 _ g4
   ·exact q4 r' hr'
theorem decl_inv{lf:Nme→Bool}:∀(l:List Tk) (m:Option (Nat×Tk)) {T T':List Nme},(∀t∈l,t.okay∧symT t=true)→T.length≤120→T.Nodup→(∀s∈T,(okName s||quotedB s)=true)→declL lf m l T=.ok T' →
  T'.length≤120∧T'.Nodup∧∀s∈T',(okName s||quotedB s)=true:=by
 have one:∀{T T':List Nme} {t:Tk},t.okay∧symT t=true→T.length≤120→T.Nodup→(∀s∈T,(okName s||quotedB s)=true)→declT T t=.ok T'→T'.length≤120∧T'.Nodup∧∀s∈T',(okName s||quotedB s)=true:=by
  intro T T' t ht h1 h2 h3 he;unfold declT at he;split at he
  ·cases he
  rename_i g1;split at he
  ·cases he
  rename_i g2;injection he with he;subst he;have g1':t.s ∉ T:=by simpa using g1
  refine⟨by simp;omega,?_,?_⟩
  ·rw[List.nodup_append]
   refine⟨h2,by simp,?_⟩;intro a ha c hc;rw[mS.1 hc];rintro rfl;exact g1' ha
  ·intro s hs
   rcases mA.1 hs with hs|hs
   ·exact h3 s hs
   ·rw[mS.1 hs]
    have:=ht.2;unfold symT at this;rw[Bool.or_eq_true,beq_iff_eq,beq_iff_eq]at this;rcases this with k|k
    ·rw[ht.1.1 k];rfl
    ·rw[ht.1.2 k];simp
 intro l;induction l with
 | nil=>
  intro m T T' _ h1 h2 h3 he;cases m with
  | none=>simp only[declL]at he;injection he with he;subst he;exact⟨h1,h2,h3⟩
  | some q=>
   obtain⟨m,st⟩:=q;simp only[declL]at he;cases hq:startT lf st with
   | error e=>rw[hq]at he;cases he
   | ok u=>rw[hq]at he;injection he with he;subst he;exact⟨h1,h2,h3⟩
 | cons t r ih=>
  intro m T T' ht h1 h2 h3 he;have step:∀(m':Option (Nat×Tk)),(match declT T t with | .error e=>.error e | .ok T1=>declL lf m' r T1)=Except.ok T'→T'.length≤120∧T'.Nodup∧∀s∈T',(okName s||quotedB s)=true:=by
   intro m' hm;cases hd:declT T t with
   | error e=>rw[hd]at hm;cases hm
   | ok T1=>rw[hd]at hm;obtain⟨k1,k2,k3⟩:=one (ht t (by simp)) h1 h2 h3 hd;exact ih m' (fun t ht'=>ht t (by simp[ht'])) k1 k2 k3 hm
  cases m with
  | none=>simp only[declL]at he;exact step none he
  | some q=>
   obtain⟨m,st⟩:=q;simp only[declL]at he;split at he
   ·cases hq:startT lf st with
    | error e=>rw[hq]at he;cases he
    | ok u=>rw[hq]at he;exact step none he
   ·exact step (some (m,st)) he
theorem decl_start{lf:Nme→Bool}{st:Tk}:∀(l:List Tk) {m:Nat} {T T':List Nme},declL lf (some (m,st)) l T=.ok T'→lf st.s=true:=by
 have one:startT lf st=.ok ()→lf st.s=true:=by
  unfold startT;split
  ·intro _;assumption
  ·intro h;cases h
 intro l;induction l with
 | nil=>
  intro m T T' he;simp only[declL]at he;cases hq:startT lf st with
  | error e=>rw[hq]at he;cases he
  | ok u=>exact one hq
 | cons t r ih=>
  intro m T T' he;simp only[declL]at he;split at he
  ·cases hq:startT lf st with
   | error e=>rw[hq]at he;cases he
   | ok u=>exact one hq
  ·cases hd:declT T t with
   | error e=>rw[hd]at he;cases he
   | ok T1=>rw[hd]at he;exact ih he
def Okays(l:List Tk):Prop:=∀t∈l,t.okay
theorem Okays.drop{l:List Tk}(h:Okays l)(n:Nat):Okays (l.drop n):=fun t ht=>h t (List.mem_of_mem_drop ht)
theorem Okays.dropW{l:List Tk}(h:Okays l):Okays (l.dropWhile symT):=fun t ht=>h t ((List.dropWhile_sublist symT).mem ht)
theorem takeW_sym{l:List Tk}:∀t∈l.takeWhile symT,symT t=true:=by
 induction l with
 | nil=>intro t ht;simp at ht
 | cons a r ih=>
  intro t ht;rw[List.takeWhile_cons]at ht;split at ht
  ·rename_i ha
   rcases List.mem_cons.1 ht with rfl|ht
   ·exact ha
   ·exact ih t ht
  ·simp at ht
theorem Okays.takeW{l:List Tk}(h:Okays l):∀t∈l.takeWhile symT,t.okay∧symT t=true:=fun t ht=>⟨h t ((List.takeWhile_sublist symT).mem ht),takeW_sym t ht⟩
structure Txt.okay(x:Txt):Prop where
 decl:∀t∈x.decl,t.okay∧symT t=true
 same:x.marks.length=x.starts.length
theorem head_ok{x x':Txt}{l l':List Tk}(hx:x.okay)(hl:Okays l)(he:headL x l=.ok (x',l')):x'.okay∧Okays l'∧x'.rules=x.rules:=by
 unfold headL at he;cases l with
 | nil=>cases he
 | cons t r=>
  simp only at he;split at he
  ·split at he
   ·cases he
   ·injection he with he
    obtain⟨rfl,rfl⟩:=Prod.mk.inj he;have hr:Okays r:=fun t ht=>hl t (by simp[ht])
    refine⟨⟨?_,hx.same⟩,hr.dropW,rfl⟩;intro t ht;rcases mA.1 ht with ht|ht
    ·exact hx.decl t ht
    ·exact hr.takeW t ht
  ·split at he
   ·split at he
    ·rename_i h8 h1
     injection he with he;obtain⟨rfl,rfl⟩:=Prod.mk.inj he;have hr:Okays r:=fun t ht=>hl t (by simp[ht])
     refine⟨⟨hx.decl,?_⟩,hr.drop 1,rfl⟩;cases r with
     | nil=>simp[isK]at h1
     | cons u r2=>simp[hx.same]
    ·cases he
   ·cases he
theorem heads_ok:∀(f:Nat) {x x':Txt} {l l':List Tk},x.okay→Okays l→headsL f x l=.ok (x',l')→x'.okay∧Okays l'∧x'.rules=x.rules
 | 0,_,_,_,_,_,_,he=>by cases he
 | f+1,x,x',l,l',hx,hl,he=>by
  simp only[headsL]at he;split at he
  ·injection he with he
   obtain⟨rfl,rfl⟩:=Prod.mk.inj he;exact⟨hx,hl.drop 1,rfl⟩
  ·cases hq:headL x l with
   | error e=>rw[hq]at he;cases he
   | ok q=>obtain⟨x1,l1⟩:=q;rw[hq]at he;obtain⟨g1,g2,g3⟩:=head_ok hx hl hq;obtain⟨q1,q2,q3⟩:=heads_ok f g1 g2 he;exact⟨q1,q2,q3.trans g3⟩
theorem side_ok{l:List Tk}(hl:Okays l):∀t∈(sideL l).l,t.okay:=fun t ht=>(hl.takeW t ht).1
theorem sides_ok:∀(f:Nat) {a:List PS} {l:List Tk},a≠[]→(∀s∈a,∀t∈s.l,t.okay)→Okays l →
  (sidesL f a l).1≠[]∧(∀s∈(sidesL f a l).1,∀t∈s.l,t.okay)∧Okays (sidesL f a l).2
 | 0,a,l,h0,h1,h2=>⟨h0,h1,h2⟩
 | f+1,a,l,h0,h1,h2=>by
  simp only[sidesL];split
  ·refine sides_ok f (by simp) ?_ (h2.drop 1).dropW
   intro s hs;rcases mA.1 hs with hs|hs
   ·exact h1 s hs
   ·rw[mS.1 hs];exact side_ok (h2.drop 1)
  ·exact⟨h0,h1,h2⟩
theorem oneR_ok{l l':List Tk}{r:PR}(hl:Okays l)(he:oneR l=.ok (r,l')):r.okay∧Okays l':=by
 unfold oneR at he;cases l with
 | nil=>cases he
 | cons t rest=>
  simp only at he;split at he
  ·cases he
  rename_i h1;split at he
  ·split at he
   ·injection he with he
    obtain⟨rfl,rfl⟩:=Prod.mk.inj he;have hr:Okays rest:=fun t ht=>hl t (by simp[ht])
    obtain⟨g1,g2,g3⟩:=sides_ok rest.length (a:=[sideL (rest.drop 1)]) (l:=(rest.drop 1).dropWhile symT) (by simp) (fun s hs=>by rw[mS.1 hs];exact side_ok (hr.drop 1)) (hr.drop 1).dropW;exact⟨⟨(hl t (by simp)).1 (by omega),g2,g1⟩,g3.drop 1⟩
   ·cases he
  ·cases he
theorem moreR_ok:∀(f:Nat) {a rs:List PR} {l:List Tk},(∀r∈a,r.okay)→Okays l→moreR f a l=.ok rs→(∀r∈rs,r.okay)∧(a≠[]→rs≠[])
 | 0,_,_,_,_,_,he=>by cases he
 | f+1,a,rs,l,ha,hl,he=>by
  simp only[moreR]at he;split at he
  ·injection he with he
   subst he;exact⟨ha,id⟩
  ·cases hq:oneR l with
   | error e=>rw[hq]at he;cases he
   | ok q=>
    obtain⟨r,l1⟩:=q;rw[hq]at he;obtain⟨g1,g2⟩:=oneR_ok hl hq;obtain⟨q1,q2⟩:=moreR_ok f (a:=a++[r]) (fun r' hr'=>by
     rcases mA.1 hr' with hr'|hr'
     ·exact ha r' hr'
     ·rw[mS.1 hr'];exact g1) g2 he
    exact⟨q1,fun _=>q2 (by simp)⟩
theorem form_ok{l:List Tk}{x:Txt}(hl:Okays l)(he:formL l=.ok x):x.okay∧(∀r∈x.rules,r.okay)∧x.rules≠[]:=by
 unfold formL at he;cases hq:headsL (l.length+1) ⟨[],[],[],[]⟩ l with
 | error e=>rw[hq]at he;cases he
 | ok q=>
  obtain⟨x1,l1⟩:=q;rw[hq]at he;obtain⟨g1,g2,_⟩:=heads_ok _ ⟨by simp,rfl⟩ hl hq;simp only at he;cases hr:oneR l1 with
  | error e=>rw[hr]at he;cases he
  | ok q=>
   obtain⟨r,l2⟩:=q;rw[hr]at he;obtain⟨k1,k2⟩:=oneR_ok g2 hr;simp only at he;cases hm:moreR (l.length+1) [r] l2 with
   | error e=>rw[hm]at he;cases he
   | ok rs=>rw[hm]at he;injection he with he;subst he;obtain⟨m1,m2⟩:=moreR_ok _ (fun r' hr'=>by rw[mS.1 hr'];exact k1) k2 hm;exact⟨⟨g1.decl,g1.same⟩,m1,m2 (by simp)⟩
theorem takeWhile_len_take{p:UInt8→Bool}(l:List UInt8):l.take (l.takeWhile p).length=l.takeWhile p:=by
 induction l with
 | nil=>rfl
 | cons a r ih=>
  rw[List.takeWhile_cons];split
  ·simp[ih]
  ·rfl
theorem takeWhile_all{p:UInt8→Bool}(l:List UInt8):(l.takeWhile p).all p=true:=by
 induction l with
 | nil=>rfl
 | cons a r ih=>
  rw[List.takeWhile_cons];split
  ·rename_i h;simp[h]
  ·rfl
theorem spanL_takeW(r:List UInt8)(x:List UInt8):spanL (r.takeWhile insideB++39::x)=spanL r:=by
 unfold spanL;induction r with
 | nil=>rfl
 | cons a r ih=>
  by_cases h:insideB a=true
  ·simp[h]
   simpa using ih
  ·simp[h]
   rfl
theorem one_ok{sz p:Nat}{l:List UInt8}{k n:Nat}(he:oneL sz p l=.ok (k,n)):Tk.okay ⟨k,l.take n,p⟩∧(0<l.length→0<n):=by
 unfold oneL at he;cases l with
 | nil=>injection he with he;obtain⟨rfl,rfl⟩:=Prod.mk.inj he;exact⟨⟨(fun h=>by cases h),(fun h=>by cases h)⟩,fun h=>by simp at h⟩
 | cons c r=>
  simp only at he;split at he
  ·rename_i hw
   injection he with he;obtain⟨rfl,rfl⟩:=Prod.mk.inj he;exact⟨⟨(fun h=>by cases h),(fun h=>by cases h)⟩,fun _=>by unfold spanBy;simp[hw]⟩
  split at he
  ·unfold commentL at he
   split at he
   ·split at he
    ·cases he
    ·injection he with he;obtain⟨rfl,rfl⟩:=Prod.mk.inj he;exact⟨⟨(fun h=>by cases h),(fun h=>by cases h)⟩,fun _=>by omega⟩
   ·cases he
  split at he
  ·rename_i hq
   subst hq;unfold quoteL at he;split at he
   ·cases he
   split at he
   ·cases he
   rename_i h2;split at he
   ·cases he
   rename_i h3;injection he with he;obtain⟨rfl,rfl⟩:=Prod.mk.inj he;refine⟨⟨(fun h=>by cases h),fun _=>?_⟩,fun _=>by omega⟩;have h2a:r[spanL r]?=some 39:=by
    by_cases h:r[spanL r]?=some 39
    ·exact h
    ·exact absurd (.inl h) h2
   have h2b:spanL r≠0:=fun h=>h2 (.inr h)
   have hlt:spanL r<r.length:=(sG.1 h2a).1;have ht:(39::r).take (spanL r+2)=39::(r.takeWhile insideB++[39]):=by rw[List.take_succ_cons,List.take_succ_eq_append_getElem hlt,(sG.1 h2a).2];congr 2;exact takeWhile_len_take r
   have hs:=spanL_takeW r [];have hlen:(r.takeWhile insideB).length=spanL r:=rfl;show quotedB ((39::r).take (spanL r+2))=true;rw[ht];unfold quotedB;rw[List.drop_succ_cons,List.drop_zero,hs];simp[hlen];refine⟨⟨⟨by omega,?_⟩,h2b⟩,by omega⟩;rw[show (39::(r.takeWhile insideB++[(39:UInt8)]))[1+spanL r]?=(r.takeWhile insideB++[(39:UInt8)])[spanL r]? by rw[Nat.add_comm];rfl];rw[List.getElem?_append_right (by omega),hlen];simp
  split at he
  ·unfold markL at he
   split at he
   ·injection he with he;obtain⟨rfl,rfl⟩:=Prod.mk.inj he;exact⟨⟨(fun h=>by cases h),(fun h=>by cases h)⟩,fun _=>by omega⟩
   split at he
   ·injection he with he;obtain⟨rfl,rfl⟩:=Prod.mk.inj he;exact⟨⟨(fun h=>by cases h),(fun h=>by cases h)⟩,fun _=>by omega⟩
   split at he
   ·injection he with he;obtain⟨rfl,rfl⟩:=Prod.mk.inj he;exact⟨⟨(fun h=>by cases h),(fun h=>by cases h)⟩,fun _=>by omega⟩
   ·cases he
  split at he
  ·rename_i hc
   split at he
   ·cases he
   rename_i h24;injection he with he;obtain⟨rfl,rfl⟩:=Prod.mk.inj he;have hcl:letB c=true:=by unfold letB;simp[hc]
   refine⟨⟨fun _=>?_,(fun h=>by cases h)⟩,fun _=>by unfold spanBy;simp[hcl]⟩;show okName ((c::r).take (spanBy letB (c::r)))=true;unfold spanBy at h24 ⊢;rw[takeWhile_len_take];rw[List.takeWhile_cons,if_pos hcl]at h24 ⊢;unfold okName nameB;have:=takeWhile_all (p:=letB) r;have e:((r.takeWhile letB).all fun d=>classOf d==4||classOf d==3)=true:=this;simp only[e,hc,Bool.and_true];simp at h24 ⊢;omega
  split at he
  ·rename_i hs
   injection he with he;obtain⟨rfl,rfl⟩:=Prod.mk.inj he;refine⟨⟨fun h=>?_,fun h=>?_⟩,fun _=>by omega⟩
   ·unfold signL at h;split at h;· cases h
    split at h;· cases h
    split at h<;>cases h
   ·unfold signL at h;split at h;· cases h
    split at h;· cases h
    split at h<;>cases h
  ·cases he
theorem toks_ok{sz:Nat}:∀(f p:Nat) (l:List UInt8) {ts:List Tk},toksL sz f p l=.ok ts→Okays ts
 | 0,_,_,_,he=>by cases he
 | f+1,p,l,ts,he=>by
  simp only[toksL]at he;split at he
  ·injection he with he;subst he
   intro t ht;rw[mS.1 ht];exact⟨(fun h=>by cases h),(fun h=>by cases h)⟩
  ·cases ho:oneL sz p l with
   | error e=>rw[ho]at he;cases he
   | ok q=>
    obtain⟨k,n⟩:=q;rw[ho]at he;simp only at he;cases hq:toksL sz f (p+n) (l.drop n) with
    | error e=>rw[hq]at he;cases he
    | ok ts'=>
     rw[hq]at he;injection he with he;subst he;have ih:=toks_ok f _ _ hq;split
     ·exact ih
     ·intro t ht
      rcases List.mem_cons.1 ht with rfl|ht
      ·exact(one_ok ho).1
      ·exact ih t ht
structure PG.Good(g:PG):Prop where
 g1:g.T.length≤120
 g2:g.N.length≤120
 g3:g.R.length≤300
 g4:∀r∈g.R,r.2.length≤8
 g5:∀s∈g.T,(okName s||quotedB s)=true
 g6:∀s∈g.N,okName s=true
 g7:(g.T++g.N).Nodup
 g8:g.T.length<g.s∧g.s≤g.T.length+g.N.length
 g9:∀r∈g.R,(g.T.length<r.1∧r.1≤g.T.length+g.N.length)∧∀a∈r.2,1≤a∧a≤g.T.length+g.N.length
 g10:g.R.Nodup
 g11:∀i,i<g.N.length→∃r∈g.R,r.1=g.T.length+1+i
 g12:∀i j,i<j→j<g.N.length→g.R.findIdx (fun r=>r.1==g.T.length+1+i)<g.R.findIdx (fun r=>r.1==g.T.length+1+j)
theorem headsB_inv{x:Txt}{T:List Nme}(hx:x.okay)(he:headsB x=.ok T) :
  (T.length≤120∧T.Nodup∧∀s∈T,(okName s||quotedB s)=true)∧∀st l,x.starts=st::l→leftOf x st.s=true:=by
 unfold headsB at he;cases hd:declL (leftOf x) (markT x) x.decl [] with
 | error e=>rw[hd]at he;simp only at he;split at he<;>cases he
 | ok T1=>
  rw[hd]at he;simp only at he;split at he
  ·cases he
  injection he with he;subst he;refine⟨decl_inv x.decl (markT x) hx.decl (by simp) (by simp) (by simp) hd,?_⟩;intro st l hs;have:∃m,markT x=some (m,st):=by
   unfold markT;rw[hs];cases hm:x.marks with
   | nil=>have:=hx.same;rw[hm,hs]at this;simp at this
   | cons m ms=>exact⟨m,rfl⟩
  obtain⟨m,hm⟩:=this;rw[hm]at hd;exact decl_start _ hd
theorem name_not_quoted{s:Nme}(h:okName s=true):quotedB s=false:=by
 cases s with
 | nil=>rfl
 | cons c r=>
  by_cases hc:c=39
  ·subst hc
   exfalso;have:okName (39::r)=false:=by show ((classOf 39==4&&(r.all fun d=>classOf d==4||classOf d==3))&&decide ((39::r).length≤24))=false;rw[show (classOf 39==4)=false from rfl];rfl
   rw[this]at h;cases h
  ·unfold quotedB
   simp[hc]
theorem findL_T{T N:List Nme}{s:Nme}(h:s∈T):findL T N s=T.idxOf s+1:=by unfold findL;rw[if_pos (by simpa using h)]
theorem findL_N{T N:List Nme}{s:Nme}(h:s ∉ T)(h2:s∈N):findL T N s=T.length+N.idxOf s+1:=by unfold findL;rw[if_neg (by simpa using h),if_pos (by simpa using h2)]
theorem findL_inj{T N:List Nme}{a c:Nme}(ha:a∈T∨a∈N)(hc:c∈T∨c∈N)(h:findL T N a=findL T N c):a=c:=by
 have inj:∀{L:List Nme} {a c:Nme},a∈L→c∈L→L.idxOf a=L.idxOf c→a=c:=by intro L a c ha hc h;have h1:=List.getElem_idxOf (List.idxOf_lt_length_of_mem ha);have h2:=List.getElem_idxOf (List.idxOf_lt_length_of_mem hc);rw[←h1,←h2];congr 1
 by_cases a1:a∈T
 ·have l1:=List.idxOf_lt_length_of_mem a1
  rw[findL_T a1]at h;by_cases c1:c∈T
  ·rw[findL_T c1]at h
   exact inj a1 c1 (by omega)
  ·rw[findL_N c1 (hc.resolve_left c1)]at h
   omega
 ·rw[findL_N a1 (ha.resolve_left a1)]at h
  by_cases c1:c∈T
  ·have l1:=List.idxOf_lt_length_of_mem c1
   rw[findL_T c1]at h;omega
  ·rw[findL_N c1 (hc.resolve_left c1)]at h
   exact inj (ha.resolve_left a1) (hc.resolve_left c1) (by omega)
theorem findIdx_same{α:Type}{p q:α→Bool}:∀{l:List α},(∀x∈l,p x=q x)→l.findIdx p=l.findIdx q
 | [],_=>rfl
 | a::r,h=>by rw[List.findIdx_cons,List.findIdx_cons,h a (by simp),findIdx_same (fun x hx=>h x (by simp[hx]))]
theorem build_good{x:Txt}{g:PG}(hx:x.okay)(hr:∀r∈x.rules,r.okay)(hne:x.rules≠[])(he:buildL x=.ok g):g.Good:=by
 unfold buildL at he;cases hh:headsB x with
 | error e=>rw[hh]at he;cases he
 | ok T=>
  rw[hh]at he;simp only at he;obtain⟨⟨t1,t2,t3⟩,hst⟩:=headsB_inv hx hh;cases hb:rulesB (leftOf x) T.length ⟨T,[],[]⟩ x.rules with
  | error e=>rw[hb]at he;cases he
  | ok b=>
   rw[hb]at he;injection he with he;subst he;have hi0:BInv (leftOf x) T.length ⟨T,[],[]⟩:=⟨t1,by simp,by simp,t2,by simp,t3,by simp,by simp,by simp,leR _,by simp,by simp⟩
   obtain⟨hi,ho,_,hl⟩:=BInv.rules x.rules hi0 ⟨by simp,by simp⟩ hr hb;have hlf:∀s,leftOf x s=true→s∈b.N:=by intro s hs;unfold leftOf at hs;obtain⟨r,hr1,hr2⟩:=List.any_eq_true.1 hs;rw[←beq_iff_eq.1 hr2];exact hl r hr1
   have hdis:∀s∈b.N,s ∉ b.T:=by
    intro s hs ht;rw[←List.take_append_drop T.length b.T]at ht;rcases mA.1 ht with ht|ht
    ·exact hi.i9 s hs ht
    ·have:=hi.i8 s ht
     rw[name_not_quoted (hi.i7 s hs)]at this;cases this
   have hN:∀s∈b.N,findL b.T b.N s=b.T.length+b.N.idxOf s+1:=fun s hs=>findL_N (hdis s hs) hs
   have hNl:∀s∈b.N,b.N.idxOf s<b.N.length:=fun s hs=>List.idxOf_lt_length_of_mem hs
   have hidx:∀i (h:i<b.N.length),b.N.idxOf b.N[i]=i:=by intro i h;have h1:=List.getElem_idxOf (hNl _ (List.getElem_mem h));exact(List.getElem_inj hi.i5).1 h1
   have hkey:∀i (h:i<b.N.length),∀r∈b.R,((ruleL2 b.T b.N r).1==b.T.length+1+i)=(r.head?==some b.N[i]):=by
    intro i h r hr;obtain⟨a,l,rfl,ha,_⟩:=hi.i10 r hr;show (findL b.T b.N a==b.T.length+1+i)=(some a==some b.N[i])
    rw[hN a ha,Bool.eq_iff_iff,beq_iff_eq,beq_iff_eq,Option.some.injEq];constructor
    ·intro e
     have e2:b.N.idxOf a=i:=by omega
     have h1:=List.getElem_idxOf (hNl a ha);rw[←h1];congr 1
    ·rintro rfl
     rw[hidx i h];omega
   have hfi:∀i (h:i<b.N.length),(b.R.map (ruleL2 b.T b.N)).findIdx (fun r=>r.1==b.T.length+1+i)=b.R.findIdx (fun r=>r.head?==some b.N[i]):=by intro i h;rw[List.findIdx_map];exact findIdx_same (fun r hr=>hkey i h r hr)
   refine⟨hi.i1,hi.i2,?_,?_,hi.i6,hi.i7,?_,?_,?_,?_,?_,?_⟩
   ·show (b.R.map _).length≤300
    simpa using hi.i3
   ·intro r hr
    obtain⟨r',hr',rfl⟩:=List.mem_map.1 hr;obtain⟨a,l,rfl,_,h8,_⟩:=hi.i10 r' hr';simpa [ruleL2] using h8
   ·show (b.T++b.N).Nodup
    rw[List.nodup_append];refine⟨hi.i4,hi.i5,?_⟩;rintro a ha c hc rfl;exact hdis a hc ha
   ·show b.T.length<(gramL x b).s∧(gramL x b).s≤b.T.length+b.N.length
    unfold gramL;simp only;cases hs:x.starts with
    | nil=>
     simp only;have:0<b.N.length:=by
      cases hrs:x.rules with
      | nil=>exact absurd hrs hne
      | cons r l=>exact List.length_pos_of_mem (hl r (by rw[hrs];simp))
     omega
    | cons st l=>simp only;have hm:=hlf _ (hst st l hs);rw[hN _ hm];have:=hNl _ hm;omega
   ·intro r hr
    obtain⟨r',hr',rfl⟩:=List.mem_map.1 hr;obtain⟨a,l,rfl,ha,_,hc⟩:=hi.i10 r' hr';refine⟨?_,?_⟩
    ·show b.T.length<findL b.T b.N a∧findL b.T b.N a≤b.T.length+b.N.length
     rw[hN a ha];have:=hNl a ha;omega
    ·intro k hk
     obtain⟨c,hcl,rfl⟩:=List.mem_map.1 hk;show 1≤findL b.T b.N c∧findL b.T b.N c≤b.T.length+b.N.length;by_cases h1:c∈b.T
     ·rw[findL_T h1]
      have:=List.idxOf_lt_length_of_mem h1;omega
     ·have h2:=hlf c ((hc c hcl).resolve_left h1)
      rw[hN c h2];have:=hNl c h2;omega
   ·show (b.R.map (ruleL2 b.T b.N)).Nodup
    rw[List.Nodup,List.pairwise_map];refine hi.i11.imp_of_mem ?_;intro r1 r2 hr1 hr2 hne;obtain⟨a1,l1,rfl,ha1,_,hc1⟩:=hi.i10 r1 hr1;obtain⟨a2,l2,rfl,ha2,_,hc2⟩:=hi.i10 r2 hr2;intro e;apply hne;have e1:findL b.T b.N a1=findL b.T b.N a2:=congrArg Prod.fst e;have e2:l1.map (findL b.T b.N)=l2.map (findL b.T b.N):=congrArg Prod.snd e;have hh:∀c,(c∈b.T∨leftOf x c=true)→(c∈b.T∨c∈b.N):=fun c h=>h.imp id (hlf c)
    have hmap:∀{l1 l2:List Nme},(∀c∈l1,c∈b.T∨c∈b.N)→(∀c∈l2,c∈b.T∨c∈b.N)→l1.map (findL b.T b.N)=l2.map (findL b.T b.N)→l1=l2:=by
     intro l1;induction l1 with
     | nil=>intro l2 _ _ e;cases l2 with
      | nil=>rfl
      | cons _ _=>cases e
     | cons c r ih=>intro l2 h1 h2 e;cases l2 with
      | nil=>cases e
      | cons d r2=>rw[List.map_cons,List.map_cons]at e;injection e with e1 e2;rw[findL_inj (h1 c (by simp)) (h2 d (by simp)) e1,ih (fun c hc=>h1 c (by simp[hc])) (fun c hc=>h2 c (by simp[hc])) e2]
    rw[findL_inj (.inr ha1) (.inr ha2) e1,hmap (fun c hc=>hh c (hc1 c hc)) (fun c hc=>hh c (hc2 c hc)) e2]
   ·intro i hi2
    have hi2:i<b.N.length:=hi2;obtain⟨r,hr,h2⟩:=ho.mem b.N[i] (List.getElem_mem hi2);refine⟨_,List.mem_map.2 ⟨r,hr,rfl⟩,?_⟩;have:=hkey i hi2 r hr;rw[h2]at this;exact beq_iff_eq.1 (this.trans (by simp))
   ·intro i j hij hj
    have hj:j<b.N.length:=hj;show (b.R.map (ruleL2 b.T b.N)).findIdx (fun r=>r.1==b.T.length+1+i)<(b.R.map (ruleL2 b.T b.N)).findIdx (fun r=>r.1==b.T.length+1+j);rw[hfi i (by omega),hfi j hj];exact ho.ord i j hij _ _ (eG (by omega)) (eG hj)
theorem parse_good{s:List UInt8}{g:PG}(he:parseL s=.ok g):g.Good:=by
 unfold parseL at he;cases ht:tokens s with
 | error e=>rw[ht]at he;cases he
 | ok l=>
  rw[ht]at he;simp only at he;have hl:Okays l:=by
   unfold tokens at ht;split at ht
   ·cases ht
   ·exact toks_ok _ _ _ ht
  cases hf:formL l with
  | error e=>rw[hf]at he;cases he
  | ok x=>rw[hf]at he;obtain⟨h1,h2,h3⟩:=form_ok hl hf;exact build_good h1 h2 h3 he
theorem name_parts{a:Nme}(h:okName a=true):∃c r,a=c::r∧classOf c=4∧(c::r).all letB=true∧(c::r).length≤24:=by
 cases a with
 | nil=>cases h
 | cons c r=>unfold okName nameB at h;simp only[Bool.and_eq_true,decide_eq_true_eq,beq_iff_eq]at h;obtain⟨⟨h4,hr⟩,hlen⟩:=h;refine⟨c,r,rfl,h4,?_,hlen⟩;have h5:r.all letB=true:=hr;simp only[List.all_cons,h5,Bool.and_true];simp[letB,h4]
theorem quoted_parts{a:Nme}(h:quotedB a=true):∃m,a=39::(m++[39])∧m.all insideB=true∧m≠[]∧m.length<23:=by
 cases a with
 | nil=>cases h
 | cons c r=>
  unfold quotedB at h;simp only[List.head?_cons,List.drop_succ_cons,List.drop_zero,Bool.and_eq_true,beq_iff_eq,decide_eq_true_eq,bne_iff_ne,ne_eq,Option.some.injEq,List.length_cons]at h;obtain⟨⟨rfl,⟨⟨h1,h2⟩,h3⟩,h4⟩,h5⟩:=h;rw[Nat.add_comm,List.getElem?_cons_succ]at h2;have hlt:spanL r<r.length:=(sG.1 h2).1;refine⟨r.takeWhile insideB,?_,takeWhile_all r,?_,?_⟩
  ·have:r=r.take (spanL r+1):=(tkL (by omega)).symm
   rw[List.take_succ_eq_append_getElem hlt,(sG.1 h2).2]at this;have e:r.take (spanL r)=r.takeWhile insideB:=takeWhile_len_take r;rw[e]at this;rw[←this]
  ·intro e
   apply h3;unfold spanL;rw[e];rfl
  ·show spanL r<23
   omega
namespace PG
end PG
namespace PG
end PG
namespace PG
variable {g:PG}
end PG
end Go.Proofs.YthaacmablcpdfaaGreatDoor
namespace Go.Proofs
open Go.Shelf
def Tryz.lays217_ren:Go.Shelf.Ren:=⟨fun|217=>218|266=>232|n=>n,fun|9=>9|5=>5|3=>3|n=>n,fun|n=>n⟩
theorem Tryz.lays217:Go.Proofs.Lays.n217 Tryz.prog Tryz.lays217_ren:={
 mixed:=by kernel_rfl
 f217:=Tryz.func218.trans (congrArg some (by kernel_rfl))
 f266:=Tryz.func232.trans (congrArg some (by kernel_rfl))
 t3:=Tryz.underlying3
 a3:=Tryz.isAgg3
 z3:=Tryz.sizeOf3
 v3:=Tryz.zeroValue3
 t5:=Tryz.underlying5
 a5:=Tryz.isAgg5
 z5:=Tryz.sizeOf5
 v5:=Tryz.zeroValue5
 t9:=Tryz.underlying9
 a9:=Tryz.isAgg9
 z9:=Tryz.sizeOf9
 v9:=Tryz.zeroValue9}
open Go.RowKit Go.Lib in
theorem Tryz.stringslite_IndexByte(s:ByteArray)(c:Int)(w:World) :
 Calls Tryz.prog 218 #[.string s,.int .u8 c] w fun e w'=>e=.returned (.int .i64 (Lib.indexByte s.data.toList c.toNat.toUInt8))∧w'=w:=Any.stringslite_IndexByte Tryz.lays217 s c w
def Tryz.lays219_ren:Go.Shelf.Ren:=⟨fun|219=>220|217=>218|225=>233|224=>234|267=>235|266=>232|314=>241|n=>n,fun|9=>9|3=>3|4=>4|5=>5|46=>219|146=>313|51=>305|n=>n,fun|1=>2|n=>n⟩
def Tryz.lays143_ren:Go.Shelf.Ren:=⟨fun|143=>204|219=>220|217=>218|225=>233|224=>234|267=>235|266=>232|314=>241|n=>n,fun|9=>9|3=>3|4=>4|5=>5|46=>219|146=>313|51=>305|n=>n,fun|1=>2|n=>n⟩
theorem Tryz.lays143:Go.Proofs.Lays.n143 Tryz.prog Tryz.lays143_ren:={
 mixed:=by kernel_rfl
 f143:=Tryz.func204.trans (congrArg some (by kernel_rfl))
 f217:=Tryz.func218.trans (congrArg some (by kernel_rfl))
 f219:=Tryz.func220.trans (congrArg some (by kernel_rfl))
 f224:=Tryz.func234.trans (congrArg some (by kernel_rfl))
 f225:=Tryz.func233.trans (congrArg some (by kernel_rfl))
 f266:=Tryz.func232.trans (congrArg some (by kernel_rfl))
 f267:=Tryz.func235.trans (congrArg some (by kernel_rfl))
 f314:=Tryz.func241.trans (congrArg some (by kernel_rfl))
 t3:=Tryz.underlying3
 a3:=Tryz.isAgg3
 z3:=Tryz.sizeOf3
 v3:=Tryz.zeroValue3
 t4:=Tryz.underlying4
 a4:=Tryz.isAgg4
 z4:=Tryz.sizeOf4
 v4:=Tryz.zeroValue4
 t5:=Tryz.underlying5
 a5:=Tryz.isAgg5
 z5:=Tryz.sizeOf5
 v5:=Tryz.zeroValue5
 t9:=Tryz.underlying9
 a9:=Tryz.isAgg9
 z9:=Tryz.sizeOf9
 v9:=Tryz.zeroValue9
 t46:=Tryz.underlying219
 a46:=Tryz.isAgg219
 z46:=Tryz.sizeOf219
 v46:=Tryz.zeroValue219
 t51:=Tryz.underlying305
 a51:=Tryz.isAgg305
 z51:=Tryz.sizeOf305
 v51:=Tryz.zeroValue305
 t146:=Tryz.underlying313
 a146:=Tryz.isAgg313
 z146:=Tryz.sizeOf313
 v146:=Tryz.zeroValue313
 g1:=by kernel_rfl}
open Go.RowKit Go.Lib in
theorem Tryz.strings_Index(s sub:ByteArray)(m:Int)(w:World)(hs:s.size<4294967281)(hm:w.cell? ⟨2,0,none⟩=some (.int .i64 m)) :
 Calls Tryz.prog 204 #[.string s,.string sub] w fun e w'=>e=.returned (.int .i64 (Lib.index s.data.toList sub.data.toList))∧w'=w:=Any.strings_Index Tryz.lays143 s sub m w hs hm
def Tryz.lays206_ren:Go.Shelf.Ren:=⟨fun|206=>219|n=>n,fun|9=>9|4=>4|3=>3|n=>n,fun|n=>n⟩
def Tryz.lays99_ren:Go.Shelf.Ren:=⟨fun|99=>203|206=>219|n=>n,fun|9=>9|4=>4|3=>3|n=>n,fun|n=>n⟩
theorem Tryz.lays99:Go.Proofs.Lays.n99 Tryz.prog Tryz.lays99_ren:={
 mixed:=by kernel_rfl
 f99:=Tryz.func203.trans (congrArg some (by kernel_rfl))
 f206:=Tryz.func219.trans (congrArg some (by kernel_rfl))
 t3:=Tryz.underlying3
 a3:=Tryz.isAgg3
 z3:=Tryz.sizeOf3
 v3:=Tryz.zeroValue3
 t4:=Tryz.underlying4
 a4:=Tryz.isAgg4
 z4:=Tryz.sizeOf4
 v4:=Tryz.zeroValue4
 t9:=Tryz.underlying9
 a9:=Tryz.isAgg9
 z9:=Tryz.sizeOf9
 v9:=Tryz.zeroValue9}
open Go.RowKit Go.Lib in
theorem Tryz.strings_HasPrefix(s p:ByteArray)(w:World) :
 Calls Tryz.prog 203 #[.string s,.string p] w fun e w'=>e=.returned (.bool (Lib.hasPrefix s.data.toList p.data.toList))∧w'=w:=Any.strings_HasPrefix Tryz.lays99 s p w
end Go.Proofs
namespace Go.Proofs.YthaacmablcpdfaaGreatDoor
open Go.RowKit
set_option linter.unusedVariables false
theorem spanBy_cons{p:UInt8→Bool}(c:UInt8)(l:List UInt8):spanBy p (c::l)=if p c then spanBy p l+1 else 0:=by unfold spanBy;rw[List.takeWhile_cons];split<;>simp
theorem spanBy_le(p:UInt8→Bool)(l:List UInt8):spanBy p l≤l.length:=(List.takeWhile_sublist p).length_le
theorem gletter_any(c:UInt8)(w:World):Calls Tryz.prog 165 #[.int .u8 c.toNat] w fun e w'=>e=.returned (.bool (letB c))∧w=w':=by
 have HC:=Hd (class_any c w);unfold letB;generalize classOf c=k at *;go_enter Tryz.func165,Tryz.ntmps165
 cases h4:(k==4) with
 | true=>
  have h4':((k:Int)==4)=true:=by rw[beq_iff_eq]at h4 ⊢;omega
  go_wp2_with (go_at_call 164;refine HC.out.mono ?_;rintro e w' ⟨rfl,rfl⟩)
  go_ret;exact⟨rfl,rfl⟩
 | false=>
  have h4':((k:Int)==4)=false:=by rw[bN]at h4 ⊢;omega
  have h3':((k:Int)==3)=(k==3):=by rw[Bool.eq_iff_iff,beq_iff_eq,beq_iff_eq];omega
  have H3:=Hd h3';clear h3';go_wp2_with (go_at_call 164;refine HC.out.mono ?_;rintro e w' ⟨rfl,rfl⟩)
  go_ret;refine⟨?_,rfl⟩;rw[←H3.out];rfl
def whiteN(n:Int):Bool:=decide (0≤Lib.indexByte [32,9,10,13] n.toNat.toUInt8)
theorem white_all:allBytes.all (fun c=>whiteN c.toNat==whiteB c)=true:=by kernel_rfl
theorem white_eq(c:UInt8):decide (0≤Lib.indexByte [32,9,10,13] (c.toNat:Int).toNat.toUInt8)=whiteB c:=beq_iff_eq.1 (List.all_eq_true.1 white_all c (mem_bytes c))
theorem sIndexByte_any(s:ByteArray)(c:Int)(w:World):Calls Tryz.prog 202 #[.string s,.int .u8 c] w fun e w'=>e=.returned (.int .i64 (Lib.indexByte s.data.toList c.toNat.toUInt8))∧w'=w:=by
 have HL:=Hd (Tryz.stringslite_IndexByte s c w);go_enter Tryz.func202,Tryz.ntmps202
 go_wp2_with (go_at_call 218;refine HL.out.mono ?_;rintro e w' ⟨rfl,rfl⟩)
 go_ret;exact⟨rfl,rfl⟩
theorem white_any(c:UInt8)(w:World):Calls Tryz.prog 160 #[.int .u8 c.toNat] w fun e w'=>e=.returned (.bool (whiteB c))∧w=w':=by
 have HS:=Hd (sIndexByte_any ⟨#[32,9,10,13]⟩ c.toNat w);have HW:=Hd (white_eq c);generalize Lib.indexByte (⟨#[32,9,10,13]⟩:ByteArray).data.toList (c.toNat:Int).toNat.toUInt8=k at *;go_enter Tryz.func160,Tryz.ntmps160
 go_wp2_with (go_at_call 202;refine HS.out.mono ?_;rintro e w' ⟨rfl,rfl⟩)
 go_ret;refine⟨?_,rfl⟩;rw[←HW.out];rfl
theorem sign_any(c:UInt8)(w:World):Calls Tryz.prog 166 #[.int .u8 c.toNat] w fun e w'=>e=.returned (.int .i64 (signL c))∧w=w':=by
 have h58:(c=58)=((c.toNat:Int)=58):=by rw[←UInt8.toNat_inj];show (c.toNat=58)=_;rw[eq_iff_iff];omega
 have h124:(c=124)=((c.toNat:Int)=124):=by rw[←UInt8.toNat_inj];show (c.toNat=124)=_;rw[eq_iff_iff];omega
 have h59:(c=59)=((c.toNat:Int)=59):=by rw[←UInt8.toNat_inj];show (c.toNat=59)=_;rw[eq_iff_iff];omega
 unfold signL;simp only[h58,h124,h59];clear h58 h124 h59;generalize (c.toNat:Int)=n;by_cases h1:n=58
 ·subst h1
  go_enter Tryz.func166,Tryz.ntmps166
  go_wp2;go_ret;exact⟨rfl,rfl⟩
 by_cases h2:n=124
 ·subst h2
  go_enter Tryz.func166,Tryz.ntmps166
  go_wp2;go_ret;exact⟨rfl,rfl⟩
 by_cases h3:n=59
 ·subst h3
  go_enter Tryz.func166,Tryz.ntmps166
  go_wp2;go_ret;exact⟨rfl,rfl⟩
 rw[if_neg h1,if_neg h2,if_neg h3];have q1:(n==58)=false:=bN.2 h1;have q2:(n==124)=false:=bN.2 h2;have q3:(n==59)=false:=bN.2 h3;clear h1 h2 h3;go_enter Tryz.func166,Tryz.ntmps166
 go_wp2;go_ret;exact⟨rfl,rfl⟩
def SpanAtwhite(s:ByteArray)(p k:Nat):Prop:=p+k≤s.size∧spanBy whiteB (s.data.toList.drop p)=k+spanBy whiteB (s.data.toList.drop (p+k))
set_option maxRecDepth 100000 in
set_option maxHeartbeats 1600000 in
theorem span_white(s:ByteArray)(hs:s.size≤4611686018427387904)(p:Nat)(hp:p≤s.size)(w:World):Calls Tryz.prog 161 #[.string s,.int .i64 p,.func (.func 160) #[] #[]] w fun e w'=>e=.returned (.int .i64 (spanBy whiteB (s.data.toList.drop p)))∧w=w':=by
 go_enter Tryz.func161,Tryz.ntmps161
 go_wp2
 go_loop [7] (fun n=>∃k:Nat,p+k≤s.size∧n=.int .i64 k∧Hid (SpanAtwhite s p k)) (fun n=>s.size-(intOf n).toNat)
 case atStart=>exact⟨0,by omega,rfl,Hd ⟨by omega,by simp⟩⟩
 case round=>
  obtain⟨k,hk,rfl,HS⟩:=hrel;by_cases hlt:p+k<s.size
  ·have HD:=Hd (drop_at s (p+k) hlt)
   have HI:=Hd (white_any s[p+k] w);cases hb:whiteB s[p+k] with
   | true=>
    rw[hb]at HI;have HN:Hid (SpanAtwhite s p (k+1)):=Hd ⟨by omega,by have h1:=HS.out.2;rw[HD.out,spanBy_cons,if_pos hb]at h1;rw[h1];show k+(spanBy whiteB (s.data.toList.drop (p+k+1))+1)=k+1+spanBy whiteB (s.data.toList.drop (p+(k+1)));rw[Nat.add_assoc p k 1];omega⟩
    clear hb;go_wp2_with (go_at_call 160;refine HI.out.mono ?_;rintro e w' ⟨rfl,rfl⟩)
    go_round
    case rel=>exact⟨k+1,by omega,by go_num,HN⟩
    case measure=>simp[intOf];omega
   | false=>
    rw[hb]at HI;have HN:Hid (spanBy whiteB (s.data.toList.drop p)=k):=Hd (by have h1:=HS.out.2;rw[HD.out,spanBy_cons,hb]at h1;simpa using h1)
    clear hb;go_wp2_with (go_at_call 160;refine HI.out.mono ?_;rintro e w' ⟨rfl,rfl⟩)
    go_ret;exact⟨ret_nat HN.out.symm,rfl⟩
  ·have HN:Hid (spanBy whiteB (s.data.toList.drop p)=k):=Hd (by
    have h1:=HS.out.2;rw[show s.data.toList.drop (p+k)=[] from List.drop_of_length_le (by simp;omega)]at h1;simpa [spanBy] using h1)
   go_wp2;go_ret;exact⟨ret_nat HN.out.symm,rfl⟩
def SpanAtletter(s:ByteArray)(p k:Nat):Prop:=p+k≤s.size∧spanBy letB (s.data.toList.drop p)=k+spanBy letB (s.data.toList.drop (p+k))
set_option maxRecDepth 100000 in
set_option maxHeartbeats 1600000 in
theorem span_gletter(s:ByteArray)(hs:s.size≤4611686018427387904)(p:Nat)(hp:p≤s.size)(w:World):Calls Tryz.prog 161 #[.string s,.int .i64 p,.func (.func 165) #[] #[]] w fun e w'=>e=.returned (.int .i64 (spanBy letB (s.data.toList.drop p)))∧w=w':=by
 go_enter Tryz.func161,Tryz.ntmps161
 go_wp2
 go_loop [7] (fun n=>∃k:Nat,p+k≤s.size∧n=.int .i64 k∧Hid (SpanAtletter s p k)) (fun n=>s.size-(intOf n).toNat)
 case atStart=>exact⟨0,by omega,rfl,Hd ⟨by omega,by simp⟩⟩
 case round=>
  obtain⟨k,hk,rfl,HS⟩:=hrel;by_cases hlt:p+k<s.size
  ·have HD:=Hd (drop_at s (p+k) hlt)
   have HI:=Hd (gletter_any s[p+k] w);cases hb:letB s[p+k] with
   | true=>
    rw[hb]at HI;have HN:Hid (SpanAtletter s p (k+1)):=Hd ⟨by omega,by have h1:=HS.out.2;rw[HD.out,spanBy_cons,if_pos hb]at h1;rw[h1];show k+(spanBy letB (s.data.toList.drop (p+k+1))+1)=k+1+spanBy letB (s.data.toList.drop (p+(k+1)));rw[Nat.add_assoc p k 1];omega⟩
    clear hb;go_wp2_with (go_at_call 165;refine HI.out.mono ?_;rintro e w' ⟨rfl,rfl⟩)
    go_round
    case rel=>exact⟨k+1,by omega,by go_num,HN⟩
    case measure=>simp[intOf];omega
   | false=>
    rw[hb]at HI;have HN:Hid (spanBy letB (s.data.toList.drop p)=k):=Hd (by have h1:=HS.out.2;rw[HD.out,spanBy_cons,hb]at h1;simpa using h1)
    clear hb;go_wp2_with (go_at_call 165;refine HI.out.mono ?_;rintro e w' ⟨rfl,rfl⟩)
    go_ret;exact⟨ret_nat HN.out.symm,rfl⟩
  ·have HN:Hid (spanBy letB (s.data.toList.drop p)=k):=Hd (by
    have h1:=HS.out.2;rw[show s.data.toList.drop (p+k)=[] from List.drop_of_length_le (by simp;omega)]at h1;simpa [spanBy] using h1)
   go_wp2;go_ret;exact⟨ret_nat HN.out.symm,rfl⟩
theorem fnew_at(k:Int)(hk:(k==0)=false)(p:Int)(w:World):Calls Tryz.prog 67 #[.int .i64 k,.int .i64 p] w fun e w'=>e=.returned (.iface 202 (.pointer (some ⟨w.heap.size,0,none⟩)))∧w'=w.alloc (.cells #[.int .i64 k,.int .i64 p] 204):=by
 go_enter Tryz.func67,Tryz.ntmps67
 go_wp2;go_ret;exact⟨rfl,rfl⟩
def ErrAt(w:World)(v:Value)(f:Flt):Prop:=∃b,v=.iface 202 (.pointer (some ⟨b,0,none⟩))∧Blk w b 204 #[.int .i64 f.1,.int .i64 f.2]
theorem ErrAt.new(w:World)(e p:Nat):ErrAt (w.alloc (.cells #[.int .i64 e,.int .i64 p] 204)) (.iface 202 (.pointer (some ⟨w.heap.size,0,none⟩))) (e,p):=⟨_,rfl,Blk.new _ _ _⟩
def PairEnd(w:World)(r:Except Flt (Nat×Nat))(e:Ending)(w':World):Prop:=
 Below w.heap.size w w'∧match r with
 | .ok (k,n)=>e=.returned (.tuple #[.int .i64 n,.nilIface])
 | .error f=>∃v,e=.returned (.tuple #[.int .i64 0,v])∧ErrAt w' v f
theorem PairEnd.err(w:World)(e p:Nat):PairEnd w (.error (e,p)) (.returned (.tuple #[.int .i64 0,.iface 202 (.pointer (some ⟨w.heap.size,0,none⟩))])) (w.alloc (.cells #[.int .i64 e,.int .i64 p] 204)):=
 ⟨below_alloc _ _,_,rfl,.new _ _ _⟩
theorem PairEnd.errI(w:World)(e p:Nat)(q:Int)(h:q=p):PairEnd w (.error (e,p)) (.returned (.tuple #[.int .i64 0,.iface 202 (.pointer (some ⟨w.heap.size,0,none⟩))])) (w.alloc (.cells #[.int .i64 e,.int .i64 q] 204)):=by subst h;exact .err w e p
theorem PairEnd.yesI(w:World)(k n:Nat)(q:Int)(h:q=n):PairEnd w (.ok (k,n)) (.returned (.tuple #[.int .i64 q,.nilIface])) w:=by subst h;exact⟨Below.refl _ _,rfl⟩
theorem rest_get(s:ByteArray)(p k:Nat)(h:p+(1+k)<s.size):(s.data.toList.drop (p+1))[k]?=some s[p+(1+k)]:=by rw[List.getElem?_drop,Nat.add_assoc];exact get_some s _ h
set_option maxHeartbeats 1600000 in
theorem quoted_at(s:ByteArray)(hs:s.size≤4611686018427387904)(p:Nat)(hp:p<s.size)(w:World):Calls Tryz.prog 131 #[.string s,.int .i64 p] w (PairEnd w (quoteL s.size p (s.data.toList.drop (p+1)))):=by
 have HSP:=Hd (span_any s hs (p+1) (by omega) w);have hk:spanL (s.data.toList.drop (p+1))<s.size:=by have:=spanL_le (s.data.toList.drop (p+1));simp only[List.length_drop,len_size]at this;omega
 have hget:=rest_get s p (spanL (s.data.toList.drop (p+1)));unfold quoteL;generalize spanL (s.data.toList.drop (p+1))=k at *;generalize s.data.toList.drop (p+1)=r at *;have hi1:(p:Int)+1=((p+1:Nat):Int):=by omega
 rw[←hi1]at HSP;have hpi:(p:Int)+(1+(k:Int))=((p+1+k:Nat):Int):=by omega
 by_cases h1:s.size≤p+1+k
 ·rw[if_pos h1]
  have q1:(s.size:Int)≤(p:Int)+(1+(k:Int)):=by omega
  clear hget h1 hi1 hpi;go_enter Tryz.func131,Tryz.ntmps131
  go_wp2_with fail
  refine HSP.out.mono ?_;rintro e w' ⟨rfl,rfl⟩;go_wp2_with (go_at_call 67;refine(fnew_at _ rfl _ _).mono ?_;rintro e w' ⟨rfl,rfl⟩)
  go_ret2
  exact PairEnd.err _ _ _
 rw[if_neg h1];have hlt:p+(1+k)<s.size:=by omega
 have hg:=hget hlt;rw[hg];clear hget hg hi1 hpi;have q1:¬(s.size:Int)≤(p:Int)+(1+(k:Int)):=by omega
 have q2:(p:Int)+(1+(k:Int))<(s.size:Int):=by omega
 by_cases hc:s[p+(1+k)]=39
 ·have h6:((s[p+(1+k)].toNat:Int) != 39)=false:=by rw[hc];rfl
  rw[hc];clear hc;by_cases h3:k=0
  ·subst h3
   rw[if_pos (.inr rfl)];go_enter Tryz.func131,Tryz.ntmps131
   go_wp2_with fail
   refine HSP.out.mono ?_;rintro e w' ⟨rfl,rfl⟩;go_wp2_with (go_at_call 67;refine(fnew_at _ rfl _ _).mono ?_;rintro e w' ⟨rfl,rfl⟩)
   go_ret2
   exact PairEnd.errI _ 2 (p+1+0) _ (by omega)
  ·rw[if_neg (by rintro(h|h)<;>simp_all)]
   have h7:((1:Int)+(k:Int)==1)=false:=bN.2 (by omega);by_cases h4:24≤1+k
   ·rw[if_pos h4]
    have h5:24≤(1:Int)+(k:Int):=by omega
    clear h3 h4;go_enter Tryz.func131,Tryz.ntmps131
    go_wp2_with fail
    refine HSP.out.mono ?_;rintro e w' ⟨rfl,rfl⟩;go_wp2_with (go_at_call 67;refine(fnew_at _ rfl _ _).mono ?_;rintro e w' ⟨rfl,rfl⟩)
    go_ret2
    exact PairEnd.err _ 5 p
   ·rw[if_neg h4]
    have h5:¬24≤(1:Int)+(k:Int):=by omega
    clear h3 h4;go_enter Tryz.func131,Tryz.ntmps131
    go_wp2_with fail
    refine HSP.out.mono ?_;rintro e w' ⟨rfl,rfl⟩;go_wp2
    go_ret2
    exact PairEnd.yesI _ 2 (k+2) _ (by omega)
 ·have h6:((s[p+(1+k)].toNat:Int) != 39)=true:=by
   rw[bne_iff_ne];intro e;exact hc (UInt8.toNat_inj.1 (by show s[p+(1+k)].toNat=39;omega))
  rw[if_pos (.inl (by simpa using hc))];clear hc;go_enter Tryz.func131,Tryz.ntmps131
  go_wp2_with fail
  refine HSP.out.mono ?_;rintro e w' ⟨rfl,rfl⟩;go_wp2_with (go_at_call 67;refine(fnew_at _ rfl _ _).mono ?_;rintro e w' ⟨rfl,rfl⟩)
  go_ret2
  exact PairEnd.errI _ 2 (p+1+k) _ (by omega)
def HasMax(w:World):Prop:=∃m:Int,w.cell? ⟨2,0,none⟩=some (.int .i64 m)
theorem HasMax.later{w w':World}(h:HasMax w)(hb:Below w.heap.size w w'):HasMax w':=by obtain⟨m,hm⟩:=h;exact⟨m,(hb.cell (p:=⟨2,0,none⟩) (World.block_lt_of_cell? w _ hm)).trans hm⟩
theorem drop_extract(s:ByteArray)(p:Nat):(s.extract p s.size).data.toList=s.data.toList.drop p:=by rw[Lib.extract_data];exact tkL (by simp)
theorem index_le(sub:List UInt8):∀(l:List UInt8),Lib.index l sub≤l.length
 | []=>by unfold Lib.index;split<;>simp
 | b::l=>by
  have ih:=index_le sub l;unfold Lib.index;split
  ·exact Int.natCast_nonneg _
  ·split
   ·simp;omega
   ·rw[List.length_cons];omega
theorem prefix_two(c d:UInt8)(r:List UInt8):Lib.hasPrefix (c::r) [c,d]=(r.head?==some d):=by
 unfold Lib.hasPrefix;cases r with
 | nil=>simp[List.isPrefixOf]
 | cons a l=>simp[List.isPrefixOf];exact Bool.beq_comm
theorem drop_two(s:ByteArray)(p:Nat):(s.data.toList.drop (p+1)).drop 1=s.data.toList.drop (p+2):=by rw[List.drop_drop]
theorem head_lt{s:ByteArray}{p:Nat}{c:UInt8}(h:(s.data.toList.drop (p+1)).head?=some c):p+1<s.size:=by rw[List.head?_drop]at h;have:=(sG.1 h).1;simpa using this
set_option maxHeartbeats 1600000 in
theorem comment_at(s:ByteArray)(hs:s.size≤8192)(p:Nat)(hp:p<s.size)(h47:s[p]=47)(w:World)(hm:HasMax w):Calls Tryz.prog 162 #[.string s,.int .i64 p] w (PairEnd w (commentL s.size p (s.data.toList.drop (p+1)))):=by
 obtain⟨m,hm⟩:=hm;have hpre:Lib.hasPrefix (s.extract p s.size).data.toList [47,42]=((s.data.toList.drop (p+1)).head?==some 42):=by rw[drop_extract,drop_at s p hp,h47,prefix_two]
 have hp1:=Tryz.strings_HasPrefix (s.extract p s.size) ⟨#[47,42]⟩ w;rw[hpre]at hp1;have HP:=Hd hp1;clear hp1 hpre h47;have hd:=drop_two s p;have hh:=@head_lt s p 42;unfold commentL;rw[hd];clear hd;generalize hr:(s.data.toList.drop (p+1)).head?=hr' at *;clear hr;by_cases h42:hr'=some 42
 ·subst h42
  have hlt:=hh rfl;clear hh;have hex:(s.extract (p+2) s.size).data.toList=s.data.toList.drop (p+2):=drop_extract s (p+2);have hi1:=Tryz.strings_Index (s.extract (p+2) s.size) ⟨#[42,47]⟩ m w (by rw[ByteArray.size_extract];omega) hm;rw[hex]at hi1;have HI:=Hd hi1;clear hi1 hex hm;rw[if_pos rfl];generalize hk:Lib.index (s.data.toList.drop (p+2)) (⟨#[42,47]⟩:ByteArray).data.toList=k at *;have hkl:k≤8192 ∧ -1≤k:=by rw[←hk];have h1:=index_le (⟨#[42,47]⟩:ByteArray).data.toList (s.data.toList.drop (p+2));have h2:=Lib.index_ge (s.data.toList.drop (p+2)) (⟨#[42,47]⟩:ByteArray).data.toList;rw[List.length_drop,len_size]at h1;omega
  clear hk;by_cases h0:k<0
  ·rw[if_pos h0]
   go_enter Tryz.func162,Tryz.ntmps162
   go_wp2_with (first
    | (go_at_call 203;refine HP.out.mono ?_;rintro e w' ⟨rfl,rfl⟩)
    | (go_at_call 204;refine HI.out.mono ?_;rintro e w' ⟨rfl,rfl⟩)
    | (go_at_call 67;refine(fnew_at _ rfl _ _).mono ?_;rintro e w' ⟨rfl,rfl⟩))
   go_ret2
   exact PairEnd.err _ 4 _
  ·rw[if_neg h0]
   obtain⟨k1,k2⟩:=hkl;go_enter Tryz.func162,Tryz.ntmps162
   go_wp2_with (first
    | (go_at_call 203;refine HP.out.mono ?_;rintro e w' ⟨rfl,rfl⟩)
    | (go_at_call 204;refine HI.out.mono ?_;rintro e w' ⟨rfl,rfl⟩)
    | (go_at_call 67;refine(fnew_at _ rfl _ _).mono ?_;rintro e w' ⟨rfl,rfl⟩))
   go_ret2
   exact PairEnd.yesI _ 0 _ _ (by omega)
 ·rw[if_neg h42]
  have hb:(hr'==some 42)=false:=by simpa using h42
  rw[hb]at HP;clear h42 hb hh hm;go_enter Tryz.func162,Tryz.ntmps162
  go_wp2_with (first
   | (go_at_call 203;refine HP.out.mono ?_;rintro e w' ⟨rfl,rfl⟩)
   | (go_at_call 67;refine(fnew_at _ rfl _ _).mono ?_;rintro e w' ⟨rfl,rfl⟩))
  go_ret2
  exact PairEnd.err _ 2 p
def OneEnd(w:World)(r:Except Flt (Nat×Nat))(e:Ending)(w':World):Prop:=
 Below w.heap.size w w'∧match r with
 | .ok (k,n)=>e=.returned (.tuple #[.int .i64 k,.int .i64 n,.nilIface])
 | .error f=>∃(k:Int) (v:Value),e=.returned (.tuple #[.int .i64 k,.int .i64 0,v])∧ErrAt w' v f
theorem OneEnd.errI(w:World)(e p:Nat)(k q:Int)(h:q=p):OneEnd w (.error (e,p)) (.returned (.tuple #[.int .i64 k,.int .i64 0,.iface 202 (.pointer (some ⟨w.heap.size,0,none⟩))])) (w.alloc (.cells #[.int .i64 e,.int .i64 q] 204)):=by subst h;exact⟨below_alloc _ _,k,_,rfl,.new _ _ _⟩
theorem OneEnd.yesI(w:World)(k n:Nat)(q:Int)(h:q=n):OneEnd w (.ok (k,n)) (.returned (.tuple #[.int .i64 k,.int .i64 q,.nilIface])) w:=by subst h;exact⟨Below.refl _ _,rfl⟩
theorem extract_take(s:ByteArray)(p n:Nat):(s.extract p (p+n)).data.toList=(s.data.toList.drop p).take n:=by rw[Lib.extract_data,Nat.add_sub_cancel_left]
set_option maxRecDepth 100000 in
set_option maxHeartbeats 1600000 in
theorem mark_at(s:ByteArray)(hs:s.size≤8192)(p:Nat)(hp:p<s.size)(h37:s[p]=37)(w:World):Calls Tryz.prog 163 #[.string s,.int .i64 p] w (OneEnd w (markL p (s.data.toList.drop (p+1)))):=by
 have hpre:Lib.hasPrefix (s.extract p s.size).data.toList [37,37]=((s.data.toList.drop (p+1)).head?==some 37):=by rw[drop_extract,drop_at s p hp,h37,prefix_two]
 have hp1:=Tryz.strings_HasPrefix (s.extract p s.size) ⟨#[37,37]⟩ w;rw[hpre]at hp1;have HP:=Hd hp1;clear hp1 hpre h37;unfold markL;by_cases h37:(s.data.toList.drop (p+1)).head?=some 37
 ·rw[if_pos h37]
  rw[show ((s.data.toList.drop (p+1)).head?==some 37)=true by rw[h37];rfl]at HP;clear h37;go_enter Tryz.func163,Tryz.ntmps163
  go_wp2_with (go_at_call 203;refine HP.out.mono ?_;rintro e w' ⟨rfl,rfl⟩)
  go_ret3
  exact OneEnd.yesI _ 6 2 _ rfl
 rw[if_neg h37];rw[show ((s.data.toList.drop (p+1)).head?==some 37)=false by simpa using h37]at HP;clear h37;have HSP:=Hd (span_gletter s (by omega) (p+1) (by omega) w);have hk:spanBy letB (s.data.toList.drop (p+1))≤s.size-(p+1):=by have:=spanBy_le letB (s.data.toList.drop (p+1));simp only[List.length_drop,len_size]at this;omega
 have htk:=extract_take s (p+1) (spanBy letB (s.data.toList.drop (p+1)));generalize spanBy letB (s.data.toList.drop (p+1))=k at *;rw[←htk];have hi1:(p:Int)+1=((p+1:Nat):Int):=by omega
 rw[←hi1]at HSP;have b1:(p:Int)+1+(k:Int)≤(s.size:Int):=by omega
 have b2:p+1+k≤s.size:=by omega
 generalize hx:s.extract (p+1) (p+1+k)=x at *;have hxx:x.toList=x.data.toList:=Lib.toList_data x;cases hT:(x.toList==[116,111,107,101,110]) with
 | true=>
  rw[if_pos (by rw[←hxx];exact beq_iff_eq.1 hT)];subst hx;clear hxx htk hi1;go_enter Tryz.func163,Tryz.ntmps163
  go_wp2_with (first
   | (go_at_call 203;refine HP.out.mono ?_;rintro e w' ⟨rfl,rfl⟩)
   | (go_at_call 161;refine HSP.out.mono ?_;rintro e w' ⟨rfl,rfl⟩))
  go_ret3
  exact OneEnd.yesI _ 7 _ _ (by omega)
 | false=>
  rw[if_neg (by rw[←hxx];simpa using hT)];cases hS:(x.toList==[115,116,97,114,116]) with
  | true=>
   rw[if_pos (by rw[←hxx];exact beq_iff_eq.1 hS)];subst hx;clear hxx htk hi1;go_enter Tryz.func163,Tryz.ntmps163
   go_wp2_with (first
    | (go_at_call 203;refine HP.out.mono ?_;rintro e w' ⟨rfl,rfl⟩)
    | (go_at_call 161;refine HSP.out.mono ?_;rintro e w' ⟨rfl,rfl⟩))
   go_ret3
   exact OneEnd.yesI _ 8 _ _ (by omega)
  | false=>
   rw[if_neg (by rw[←hxx];simpa using hS)];subst hx;clear hxx htk hi1;go_enter Tryz.func163,Tryz.ntmps163
   go_wp2_with (first
    | (go_at_call 203;refine HP.out.mono ?_;rintro e w' ⟨rfl,rfl⟩)
    | (go_at_call 161;refine HSP.out.mono ?_;rintro e w' ⟨rfl,rfl⟩)
    | (go_at_call 67;refine(fnew_at _ rfl _ _).mono ?_;rintro e w' ⟨rfl,rfl⟩))
   go_ret3
   exact OneEnd.errI _ 2 p _ _ rfl
end Go.Proofs.YthaacmablcpdfaaGreatDoor
