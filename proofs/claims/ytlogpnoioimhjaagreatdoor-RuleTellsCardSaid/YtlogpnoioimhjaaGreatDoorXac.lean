/- Reading a grammar's text. What is read may be. What is shown is read as it was. What is shown is read as it was. What is shown is read as it was. Sets of numbers. What a call may turn. Sets of numbers. Sets of numbers. Sets of numbers. Sets of numbers. A region whose order is drawn and whose. A region that draws its order. A range over a function. A region whose order is drawn and whose. The POSIX grammar's text. Operators and reserved words. Operators. Operators' terminals and reserved words. Reserved words. How a terminal is written. The frame of a law's proof. -/
import Derived.Test.YtlogpnoioimhjaaGreatDoorXab
import Derived.Lib.Index
import Derived.Test.YtlogpnoioimhjaaGreatDoorXaa
import Derived.Test.YtlogpnoioimhjaaGreatDoorProg
import Derived.Deep.RegionLaw
import Derived.Laws.BitsAllLaws
import Derived.Deep.DeepCutAuto
import Derived.Deep.RegionHeld3
import Derived.StillTail
import Derived.Deep.Quiet
import Derived.Deep.QuietTactic
import Derived.BigQuiet
import Derived.WalkKit
import Derived.RangeFuncNested
import Derived.RangeFuncBound
import Derived.RangeFuncCalls
import Derived.RangeFuncLeaves
import Derived.Test.YtlogpnoioimhjaaGreatDoorRows
import Derived.Below
import Derived.Lib.Hide
import Derived.Lib.Strings
import Derived.ProofKit
import Derived.OpenShut
import Derived.ShutString
import Derived.Carry
import Derived.ChangeSame
import Derived.Test.YtlogpnoioimhjaaGreatDoorXnm
set_option linter.all false
set_option maxRecDepth 100000
set_option maxHeartbeats 16000000
namespace Go.Proofs.YtlogpnoioimhjaaGreatDoor
open Go.RowKit
variable{B d f i:Nat}{e t:TypeId}{j o:List Deferred}{J:Oper}{a:Act}{args cs:Array Value}{xs:List Value}{P:Program}{listed:Array Bool}{Q:Exit->Act->World->Prop}{A:Nat->Prop}{W:World}{α:Type}{ps:Array Tmp}
structure Tk where
 k:Nat
 s:List UInt8
 p:Nat
variable{k:Nat}
abbrev Bm:=Nat×Nat
def FZ(c:UInt8):Bool:=c==32||c==9||c==10||c==13
def Cy(c:UInt8):Bool:=BH c==4||BH c==3
def Cg(p:UInt8->Bool)(l:List UInt8):Nat:=(l.takeWhile p).length
def J9(sz p:Nat)(r:List UInt8):Except Bm (Nat×Nat):=
 if sz<=p+1+Bq r then .error (4,sz) else if r[Bq r]?≠some 39\/Bq r=0 then .error (2,p+1+Bq r) else if 24<=1+Bq r then .error (5,p) else .ok (2,Bq r+2)
def JT(sz p:Nat)(r:List UInt8):Except Bm (Nat×Nat):=
 if r.head?=some 42 then(if Lib.index (r.drop 1) [42,47]<0 then .error (4,sz) else .ok (0,(Lib.index (r.drop 1) [42,47]).toNat+4)) else .error (2,p)
def KE(p:Nat)(r:List UInt8):Except Bm (Nat×Nat):=
 if r.head?=some 37 then .ok (6,2)
 else if r.take (Cg Cy r)=[116,111,107,101,110] then .ok (7,1+Cg Cy r)
 else if r.take (Cg Cy r)=[115,116,97,114,116] then .ok (8,1+Cg Cy r) else .error (2,p)
def Jd(c:UInt8):Nat:=if c=58 then 3 else if c=124 then 4 else if c=59 then 5 else 0
def GK(sz p:Nat):List UInt8->Except Bm (Nat×Nat)
 | []=>.ok (0,0)
 | c::r=>
  if FZ c then .ok (0,Cg FZ (c::r))
  else if c=47 then JT sz p r
  else if c=39 then J9 sz p r
  else if c=37 then KE p r
  else if BH c=4 then(if 24<Cg Cy (c::r) then .error (5,p) else .ok (1,Cg Cy (c::r)))
  else if Jd c≠0 then .ok (Jd c,1) else .error (2,p)
def Fg(sz:Nat):Nat->Nat->List UInt8->Except Bm (List Tk)
 | 0,_,_=>.error (0,0)
 | f+1,p,l=>
  if l.isEmpty then .ok [⟨0,[],sz⟩] else
  match GK sz p l with
  | .error e=>.error e
  | .ok (k,n)=>(match Fg sz f (p+n) (l.drop n) with
   | .error e=>.error e
   | .ok i=>.ok (if k=0 then i else⟨k,l.take n,p⟩::i))
def tokens(l:List UInt8):Except Bm (List Tk):=if 8192<l.length then .error (5,0) else Fg l.length (l.length+1) 0 l
structure PS where
 l:List Tk
 p:Nat
variable{l:List Value}
structure PR where
 left:Tk
 GX:List PS
structure Bl where
 decl:List Tk
 marks:List Nat
 starts:List Tk
 rules:List PR
def Bg(t:Tk):Bool:=t.k==1||t.k==2
def DH:List Tk->Bm
 | t::_=>(if t.k=0 then 4 else 3,t.p)
 | []=>(0,0)
def Cu(k:Nat):List Tk->Bool
 | t::_=>t.k==k
 | []=>false
def VO:List Tk->Nat
 | t::_=>t.p
 | []=>0
def Db(x:Bl):List Tk->Except Bm (Bl×List Tk)
 | []=>.error (0,0)
 | t::r=>
  if t.k=7 then(if (r.takeWhile Bg).isEmpty then .error (DH r) else .ok ({x with decl:=x.decl++r.takeWhile Bg},r.dropWhile Bg))
  else if t.k=8 then(if Cu 1 r then .ok ({x with marks:=x.marks++[t.p],starts:=x.starts++r.take 1},r.drop 1) else .error (DH r))
  else .error (DH (t::r))
def FY:Nat->Bl->List Tk->Except Bm (Bl×List Tk)
 | 0,_,_=>.error (0,0)
 | f+1,x,l=>if Cu 6 l then .ok (x,l.drop 1) else
  match Db x l with
  | .error e=>.error e
  | .ok (j,i)=>FY f j i
def BR(l:List Tk):PS:=⟨l.takeWhile Bg,VO l⟩
def DR:Nat->List PS->List Tk->List PS×List Tk
 | 0,a,l=>(a,l)
 | f+1,a,l=>if Cu 4 l then DR f (a++[BR (l.drop 1)]) ((l.drop 1).dropWhile Bg) else(a,l)
def CO:List Tk->Except Bm (PR×List Tk)
 | []=>.error (0,0)
 | t::r=>
  if t.k≠1 then .error (DH (t::r)) else if Cu 3 r then
   (
    if Cu 5 (DR r.length [BR (r.drop 1)] ((r.drop 1).dropWhile Bg)).2 then
     .ok (⟨t,(DR r.length [BR (r.drop 1)] ((r.drop 1).dropWhile Bg)).1⟩,(DR r.length [BR (r.drop 1)] ((r.drop 1).dropWhile Bg)).2.drop 1)
    else .error (DH (DR r.length [BR (r.drop 1)] ((r.drop 1).dropWhile Bg)).2))
  else .error (DH r)
def FH:Nat->List PR->List Tk->Except Bm (List PR)
 | 0,_,_=>.error (0,0)
 | f+1,a,l=>if Cu 0 l then .ok a else
  match CO l with
  | .error e=>.error e
  | .ok (r,i)=>FH f (a++[r]) i
def FD(l:List Tk):Except Bm Bl:=
 match FY (l.length+1) ⟨[],[],[],[]⟩ l with
 | .error e=>.error e
 | .ok (x,i)=>
  match CO i with
  | .error e=>.error e
  | .ok (r,j)=>
   match FH (l.length+1) [r] j with
   | .error e=>.error e
   | .ok o=>.ok {x with rules:=o}
abbrev AO:=List UInt8
variable{p:AO->Bool}
structure Bd where
 T:List AO
 N:List AO
 R:List (List AO)
def leftOf(x:Bl)(s:AO):Bool:=x.rules.any fun r=>r.left.s==s
def Ct(T:List AO)(t:Tk):Except Bm (List AO):=if T.contains t.s then .error (8,t.p) else if 120<=T.length then .error (7,t.p) else .ok (T++[t.s])
def Ex(i:AO->Bool)(st:Tk):Except Bm Unit:=if i st.s then .ok () else .error (9,st.p)
def BJ(j:AO->Bool):Option (Nat×Tk)->List Tk->List AO->Except Bm (List AO)
 | none,[],T=>.ok T
 | some (_,l),[],T=>(match Ex j l with | .error e=>.error e | .ok _=>.ok T)
 | none,t::r,T=>(match Ct T t with | .error e=>.error e | .ok i=>BJ j none r i)
 | some (m,l),t::r,T=>
  if m<t.p then(match Ex j l with | .error e=>.error e | .ok _=>(match Ct T t with | .error e=>.error e | .ok i=>BJ j none r i))
  else(match Ct T t with | .error e=>.error e | .ok i=>BJ j (some (m,l)) r i)
def DI:List Nat->Nat
 | _::m::_=>m
 | _=>8193
def BZ(x:Bl):Option (Nat×Tk):=match x.marks,x.starts with|m::_,i::_=>some (m,i)|_,_=>none
def Gn(x:Bl):Except Bm (List AO):=
 match BJ (leftOf x) (BZ x) x.decl [] with
 | .ok T=>if DI x.marks<=8192 then .error (8,DI x.marks) else .ok T
 | .error e=>if DI x.marks<=8192/\DI x.marks<e.2 then .error (8,DI x.marks) else .error e
def EO(D:Nat)(b:Bd)(t:Tk):Except Bm Bd:=
 if (b.T.take D).contains t.s then .error (8,t.p) else if b.N.contains t.s then .ok b else if 120<=b.N.length then .error (7,t.p) else .ok {b with N:=b.N++[t.s]}
def D5(i:AO->Bool)(b:Bd)(t:Tk)(k:Nat):Except Bm Bd:=
 if 8<=k then .error (7,t.p) else if b.T.contains t.s then .ok b
 else if t.k=2 then(if 120<=b.T.length then .error (7,t.p) else .ok {b with T:=b.T++[t.s]})
 else if i t.s then .ok b else .error (9,t.p)
def DV(i:AO->Bool):Bd->Nat->List Tk->Except Bm Bd
 | b,_,[]=>.ok b
 | b,k,t::r=>match D5 i b t k with | .error e=>.error e | .ok j=>DV i j (k+1) r
def Ec(j:AO->Bool)(b:Bd)(left:AO)(s:PS):Except Bm Bd:=
 if 300<=b.R.length then .error (7,s.p) else
 match DV j b 0 s.l with
 | .error e=>.error e
 | .ok i=>if i.R.contains (left::s.l.map Tk.s) then .error (8,s.p) else .ok {i with R:=i.R++[left::s.l.map Tk.s]}
def Fq(i:AO->Bool)(left:AO):Bd->List PS->Except Bm Bd
 | b,[]=>.ok b
 | b,s::r=>match Ec i b left s with | .error e=>.error e | .ok j=>Fq i left j r
def JS(j:AO->Bool)(D:Nat)(b:Bd)(r:PR):Except Bm Bd:=
 match EO D b r.left with | .error e=>.error e | .ok i=>Fq j r.left.s i r.GX
def Dd(i:AO->Bool)(D:Nat):Bd->List PR->Except Bm Bd
 | b,[]=>.ok b
 | b,r::l=>match JS i D b r with | .error e=>.error e | .ok j=>Dd i D j l
def B5(T N:List AO)(s:AO):Nat:=if T.contains s then T.idxOf s+1 else if N.contains s then T.length+N.idxOf s+1 else 0
structure PG where
 T:List AO
 N:List AO
 s:Nat
 R:List (Nat×List Nat)
variable{T:List AO}
def GO(T N:List AO):List AO->Nat×List Nat
 | []=>(0,[])
 | a::l=>(B5 T N a,l.map (B5 T N))
def G4(x:Bl)(b:Bd):PG:=
 {T:=b.T,N:=b.N,s:=match x.starts with|[]=>b.T.length+1|i::_=>B5 b.T b.N i.s,R:=b.R.map (GO b.T b.N)}
def Gr(x:Bl):Except Bm PG:=
 match Gn x with
 | .error e=>.error e
 | .ok T=>match Dd (leftOf x) T.length ⟨T,[],[]⟩ x.rules with
  | .error e=>.error e
  | .ok b=>.ok (G4 x b)
def Fk(s:List UInt8):Except Bm PG:=
 match tokens s with
 | .error e=>.error e
 | .ok l=>match FD l with
  | .error e=>.error e
  | .ok x=>Gr x
structure CX(lf:AO->Bool)(D:Nat)(b:Bd):Prop where
 i1:b.T.length<=120
 i2:b.N.length<=120
 i3:b.R.length<=300
 i4:b.T.Nodup
 i5:b.N.Nodup
 i6:∀s∈b.T,(CN s||CF s)=true
 i7:∀s∈b.N,CN s=true
 i8:∀s∈b.T.drop D,CF s=true
 i9:∀s∈b.N,s ∉ b.T.take D
 i0:D<=b.T.length
 i10:∀r∈b.R,∃a l,r=a::l/\a∈b.N/\l.length<=8/\∀c∈l,c∈b.T\/lf c=true
 i11:b.R.Nodup
variable{D:Nat}{b:Bd}
structure F9(R:List (List AO))(N:List AO):Prop where
 mem:∀a∈N,∃r∈R,r.head?=some a
 ord:∀i j:Nat,i<j->∀a c,N[i]?=some a->N[j]?=some c->R.findIdx (fun r=>r.head?==some a)<R.findIdx (fun r=>r.head?==some c)
variable{R:List (List AO)}{N:List AO}
def Tk.Cx(t:Tk):Prop:=(t.k=1->CN t.s=true)/\(t.k=2->CF t.s=true)
def NR{i:Type}{p:i->Bool}{l r:List i}(h:∃x∈l,p x=true):(l++r).findIdx p=l.findIdx p:=by have j:l.findIdx p<l.length:=List.findIdx_lt_length_of_exists h;rw[List.findIdx_append];simp[j]
def F9.KW(h:F9 R N)(r:List AO):F9 (R++[r]) N where
 mem a ha:=by obtain⟨x,o,l⟩:=h.mem a ha;exact⟨x,List.mem_append_left _ o,l⟩
 ord i j t a c ha p:=by
  have e:∀a∈N,(R++[r]).findIdx (fun r=>r.head?==some a)=R.findIdx (fun r=>r.head?==some a):=fun a ha=>NR (by obtain⟨x,o,l⟩:=h.mem a ha;exact⟨x,o,by simp[l]⟩)
  rw[e a (mG ha),e c (mG p)];exact h.ord i j t a c ha p
def F9.fresh(h:F9 R N)(a:AO)(l:List AO)(ha:a ∉ N)(P:∀r∈R,∃c l,r=c::l/\c∈N):F9 (R++[a::l]) (N++[a]) where
 mem c p:=by
  rcases mA.1 p with p|p
  ·obtain⟨x,o,t⟩:=h.mem c p;exact⟨x,List.mem_append_left _ o,t⟩
  ·rw[mS.1 p];exact⟨a::l,by simp,rfl⟩
 ord i j U c d p C:=by
  have a0:j<(N++[a]).length:=(sG.1 C).1;simp at a0;have I:N[i]?=some c:=by rw[gL (by omega)]at p;exact p
  have e:(R++[a::l]).findIdx (fun r=>r.head?==some c)=R.findIdx (fun r=>r.head?==some c):=NR (by obtain⟨x,o,t⟩:=h.mem c (mG I);exact⟨x,o,by simp[t]⟩);have a1:R.findIdx (fun r=>r.head?==some c)<R.length:=List.findIdx_lt_length_of_exists (by obtain⟨x,o,t⟩:=h.mem c (mG I);exact⟨x,o,by simp[t]⟩);rw[e];by_cases hj:j<N.length
  ·have J:N[j]?=some d:=by rw[gL hj]at C;exact C
   rw[NR (by obtain⟨x,o,t⟩:=h.mem d (mG J);exact⟨x,o,by simp[t]⟩)];exact h.ord i j U c d I J
  ·obtain rfl:j=N.length:=by omega
   have:d=a:=by simp at C;exact C.symm
   subst this;have hn:R.findIdx (fun r=>r.head?==some d)=R.length:=by rw[List.findIdx_eq_length];intro x o;obtain⟨c',l',rfl,T⟩:=P x o;simp;rintro rfl;exact ha T
   rw[List.findIdx_append,hn];simp;exact h.mem c (mG I)
def CX.left{I:AO->Bool}{l:Bd}{t:Tk}(h:CX I D b)(U:CN t.s=true)(i:EO D b t=.ok l):CX I D l/\t.s∈l.N/\l.T=b.T/\l.R=b.R/\(l.N=b.N\/(t.s ∉ b.N/\l.N=b.N++[t.s])):=by
 unfold EO at i;split at i
 ·cases i
 rename_i J;split at i
 ·rename_i o
  injection i with i;subst i;exact⟨h,by simpa using o,rfl,rfl,.inl rfl⟩
 rename_i o;split at i
 ·cases i
 rename_i h3;injection i with i;subst i;have C:t.s ∉ b.N:=by simpa using o
 have P:t.s ∉ b.T.take D:=by simpa using J
 refine⟨⟨h.i1,by simp;omega,h.i3,h.i4,?_,h.i6,?_,h.i8,?_,h.i0,?_,h.i11⟩,by simp,rfl,rfl,.inr ⟨C,rfl⟩⟩
 ·rw[List.nodup_append]
  refine⟨h.i5,by simp,?_⟩;intro a ha c p;rw[mS.1 p];rintro rfl;exact C ha
 ·intro s j
  rcases mA.1 j with j|j
  ·exact h.i7 s j
  ·rw[mS.1 j];exact U
 ·intro s j
  rcases mA.1 j with j|j
  ·exact h.i9 s j
  ·rw[mS.1 j];exact P
 ·intro r T
  obtain⟨a,a0,e,ha,R,p⟩:=h.i10 r T;exact⟨a,a0,e,List.mem_append_left _ ha,R,p⟩
variable{left:AO}
def CX.symbol{o:AO->Bool}{l:Bd}{t:Tk}(h:CX o D b)(P:t.Cx)(i:D5 o b t k=.ok l):CX o D l/\k<8/\(t.s∈l.T\/o t.s=true)/\l.N=b.N/\l.R=b.R/\(∀s∈b.T,s∈l.T):=by
 unfold D5 at i;split at i
 ·cases i
 rename_i h0;split at i
 ·rename_i p
  injection i with i;subst i;exact⟨h,by omega,.inl (by simpa using p),rfl,rfl,fun _ h=>h⟩
 rename_i p;have R:t.s ∉ b.T:=by simpa using p
 split at i
 ·rename_i I
  split at i
  ·cases i
  rename_i J;injection i with i;subst i;refine⟨⟨by simp;omega,h.i2,h.i3,?_,h.i5,?_,h.i7,?_,?_,by simp;have:=h.i0;omega,?_,h.i11⟩,by omega,.inl (by simp),rfl,rfl,fun s j=>List.mem_append_left _ j⟩
  ·rw[List.nodup_append]
   refine⟨h.i4,by simp,?_⟩;intro a ha c C;rw[mS.1 C];rintro rfl;exact R ha
  ·intro s j
   rcases mA.1 j with j|j
   ·exact h.i6 s j
   ·rw[mS.1 j,P.2 I];simp
  ·intro s j
   rw[List.drop_append_of_le_length h.i0]at j;rcases mA.1 j with j|j
   ·exact h.i8 s j
   ·rw[mS.1 j];exact P.2 I
  ·intro s j
   show s ∉ (b.T++[t.s]).take D;rw[List.take_append_of_le_length h.i0];exact h.i9 s j
  ·intro r hr
   obtain⟨a,a0,e,ha,hl,C⟩:=h.i10 r hr;exact⟨a,a0,e,ha,hl,fun c T=>(C c T).imp (fun U=>List.mem_append_left _ U) id⟩
 ·split at i
  ·rename_i J
   injection i with i;subst i;exact⟨h,by omega,.inr J,rfl,rfl,fun _ h=>h⟩
  ·cases i
theorem CX.syms:∀(l:List Tk) {b j:Bd} {k:Nat},CX p D b->(∀t∈l,t.Cx)->DV p b k l=.ok j ->
  CX p D j/\(l=[]\/k+l.length<=8)/\(∀t∈l,t.s∈j.T\/p t.s=true)/\j.N=b.N/\j.R=b.R/\(∀s∈b.T,s∈j.T)
 | [],b,j,k,h,_,i=>by simp only[DV]at i;injection i with i;subst i;exact⟨h,.inl rfl,by simp,rfl,rfl,fun _ h=>h⟩
 | t::r,b,j,k,h,I,i=>by
  simp only[DV]at i;cases o:D5 p b t k with
  | error e=>rw[o]at i;cases i
  | ok b1=>
   rw[o]at i;obtain⟨R,g2,T,U,g5,g6⟩:=h.symbol (I t (by simp)) o;obtain⟨q1,J,q3,q4,q5,P⟩:=CX.syms r R (fun t ht=>I t (by simp[ht])) i;refine⟨q1,.inr ?_,?_,q4.trans U,q5.trans g5,fun s o=>P s (g6 s o)⟩
   ·rcases J with rfl|J
    ·simp;omega
    ·simp;omega
   ·intro u C
    rcases List.mem_cons.1 C with rfl|C
    ·exact T.imp (P _) id
    ·exact q3 u C
theorem CX.side{o:Bd}{s:PS}(h:CX p D b)(hl:left∈b.N)(hs:∀t∈s.l,t.Cx)(i:Ec p b left s=.ok o) :
  CX p D o/\o.N=b.N/\o.R=b.R++[left::s.l.map Tk.s]:=by
 unfold Ec at i;split at i
 ·cases i
 rename_i h0;cases I:DV p b 0 s.l with
 | error e=>rw[I]at i;cases i
 | ok T=>
  rw[I]at i;simp only at i;split at i
  ·cases i
  rename_i U;injection i with i;subst i;obtain⟨j,J,q3,P,R,q6⟩:=h.syms s.l hs I;have a0:left::s.l.map Tk.s ∉ T.R:=by simpa using U
  refine⟨⟨j.i1,j.i2,by simp;rw[R];omega,j.i4,j.i5,j.i6,j.i7,j.i8,j.i9,j.i0,?_,?_⟩,P,by rw[<-R]⟩
  ·intro r l
   rcases mA.1 l with l|l
   ·exact j.i10 r l
   ·rw[mS.1 l]
    refine⟨left,_,rfl,by rw[P];exact hl,?_,?_⟩
    ·rcases J with e|J
     ·rw[e];simp
     ·simp;omega
    ·intro c C
     obtain⟨t,ht,rfl⟩:=List.mem_map.1 C;exact q3 t ht
  ·rw[List.nodup_append]
   refine⟨j.i11,by simp,?_⟩;intro a ha c C;rw[mS.1 C];rintro rfl;exact a0 ha
def Mn(b:Bd)(left:AO):Prop:=(F9 b.R b.N/\left∈b.N)\/∃i,b.N=i++[left]/\left ∉ i/\F9 b.R i/\∀r∈b.R,∃c l,r=c::l/\c∈i
theorem CX.GX{C:AO->Bool}:∀(l:List PS) {b j:Bd},CX C D b->Mn b left->(∀s∈l,∀t∈s.l,t.Cx)->Fq C left b l=.ok j ->
  CX C D j/\j.N=b.N/\(l≠[]->F9 j.R j.N)/\Mn j left
 | [],b,j,h,p,_,i=>by simp only[Fq]at i;injection i with i;subst i;exact⟨h,rfl,fun h=>absurd rfl h,p⟩
 | s::r,b,j,h,p,hs,i=>by
  simp only[Fq]at i;cases P:Ec C b left s with
  | error e=>rw[P]at i;cases i
  | ok I=>
   rw[P]at i;have T:left∈b.N:=by
    rcases p with⟨_,o⟩|⟨N0,o,_⟩
    ·exact o
    ·rw[o];simp
   obtain⟨g1,J,g3⟩:=h.side T (hs s (by simp)) P;have U:F9 I.R I.N:=by
    rw[g3,J];rcases p with⟨o,R⟩|⟨N0,o,R,h3,h4⟩
    ·exact o.KW _
    ·rw[o];exact h3.fresh left _ R h4
   have a0:Mn I left:=.inl ⟨U,by rw[J];exact T⟩;obtain⟨q1,q2,q3,q4⟩:=CX.GX r g1 a0 (fun s a1=>hs s (by simp[a1])) i;refine⟨q1,q2.trans J,fun _=>?_,q4⟩;by_cases hr:r=[]
   ·subst hr
    simp only[Fq]at i;injection i with i;subst i;exact U
   ·exact q3 hr
theorem CX.Bo{J:AO->Bool}{r:PR}{j:Bd}(h:CX J D b)(R:F9 b.R b.N)(hk:CN r.left.s=true)(o:∀s∈r.GX,∀t∈s.l,t.Cx)(a0:r.GX≠[])(l:JS J D b r=.ok j) :
  CX J D j/\F9 j.R j.N/\(∀s∈b.N,s∈j.N)/\r.left.s∈j.N:=by
 unfold JS at l;cases I:EO D b r.left with
 | error e=>rw[I]at l;cases l
 | ok U=>
  rw[I]at l;obtain⟨g1,P,g3,p,i⟩:=h.left hk I;have a1:Mn U r.left.s:=by
   rcases i with i|⟨i,C⟩
   ·exact .inl ⟨by rw[p,i];exact R,P⟩
   ·refine .inr ⟨b.N,C,i,by rw[p];exact R,?_⟩
    rw[p];intro r' a2;obtain⟨a,a3,e,ha,_⟩:=h.i10 r' a2;exact⟨a,a3,e,ha⟩
  obtain⟨q1,T,q3,_⟩:=g1.GX r.GX a1 o l;refine⟨q1,q3 a0,fun s o=>?_,by rw[T];exact P⟩;rw[T];rcases i with i|⟨_,C⟩
  ·rw[i];exact o
  ·rw[C];exact List.mem_append_left _ o
def PR.Cx(r:PR):Prop:=CN r.left.s=true/\(∀s∈r.GX,∀t∈s.l,t.Cx)/\r.GX≠[]
theorem CX.rules:∀(l:List PR) {b j:Bd},CX p D b->F9 b.R b.N->(∀r∈l,r.Cx)->Dd p D b l=.ok j ->
  CX p D j/\F9 j.R j.N/\(∀s∈b.N,s∈j.N)/\∀r∈l,r.left.s∈j.N
 | [],b,j,h,t,_,i=>by simp only[Dd]at i;injection i with i;subst i;exact⟨h,t,fun _ h=>h,by simp⟩
 | r::l,b,j,h,t,o,i=>by
  simp only[Dd]at i;cases C:JS p D b r with
  | error e=>rw[C]at i;cases i
  | ok b1=>
   rw[C]at i;obtain⟨k1,k2,k3⟩:=o r (by simp);obtain⟨P,R,T,U⟩:=h.Bo t k1 k2 k3 C;obtain⟨q1,q2,J,q4⟩:=CX.rules l P R (fun r hr=>o r (by simp[hr])) i;refine⟨q1,q2,fun s o=>J s (T s o),fun r' I=>?_⟩;rcases List.mem_cons.1 I with rfl|I
   ·exact J _ U
   ·exact q4 r' I
def VG{R:AO->Bool}:∀(l:List Tk) (m:Option (Nat×Tk)) {T T':List AO},(∀t∈l,t.Cx/\Bg t=true)->T.length<=120->T.Nodup->(∀s∈T,(CN s||CF s)=true)->BJ R m l T=.ok T' ->
  T'.length<=120/\T'.Nodup/\∀s∈T',(CN s||CF s)=true:=by
 have one:∀{T T':List AO} {t:Tk},t.Cx/\Bg t=true->T.length<=120->T.Nodup->(∀s∈T,(CN s||CF s)=true)->Ct T t=.ok T'->T'.length<=120/\T'.Nodup/\∀s∈T',(CN s||CF s)=true:=by
  intro T T' t p C j o i;unfold Ct at i;split at i
  ·cases i
  rename_i g1;split at i
  ·cases i
  rename_i g2;injection i with i;subst i;have a0:t.s ∉ T:=by simpa using g1
  refine⟨by simp;omega,?_,?_⟩
  ·rw[List.nodup_append]
   refine⟨j,by simp,?_⟩;intro a ha c hc;rw[mS.1 hc];rintro rfl;exact a0 ha
  ·intro s J
   rcases mA.1 J with J|J
   ·exact o s J
   ·rw[mS.1 J]
    have:=p.2;unfold Bg at this;rw[Bool.or_eq_true,beq_iff_eq,beq_iff_eq]at this;rcases this with k|k
    ·rw[p.1.1 k];rfl
    ·rw[p.1.2 k];simp
 intro l;induction l with
 | nil=>
  intro m T T' _ C j o i;cases m with
  | none=>simp only[BJ]at i;injection i with i;subst i;exact⟨C,j,o⟩
  | some q=>
   obtain⟨m,U⟩:=q;simp only[BJ]at i;cases I:Ex R U with
   | error e=>rw[I]at i;cases i
   | ok u=>rw[I]at i;injection i with i;subst i;exact⟨C,j,o⟩
 | cons t r ih=>
  intro m T T' p C j o i;have step:∀(m':Option (Nat×Tk)),(match Ct T t with | .error e=>.error e | .ok T1=>BJ R m' r T1)=Except.ok T'->T'.length<=120/\T'.Nodup/\∀s∈T',(CN s||CF s)=true:=by
   intro m' P;cases hd:Ct T t with
   | error e=>rw[hd]at P;cases P
   | ok T1=>rw[hd]at P;obtain⟨k1,k2,k3⟩:=one (p t (by simp)) C j o hd;exact ih m' (fun t a1=>p t (by simp[a1])) k1 k2 k3 P
  cases m with
  | none=>simp only[BJ]at i;exact step none i
  | some q=>
   obtain⟨m,U⟩:=q;simp only[BJ]at i;split at i
   ·cases I:Ex R U with
    | error e=>rw[I]at i;cases i
    | ok u=>rw[I]at i;exact step none i
   ·exact step (some (m,U)) i
theorem ZQ{j:AO->Bool}{st:Tk}:∀(l:List Tk) {m:Nat} {T T':List AO},BJ j (some (m,st)) l T=.ok T'->j st.s=true:=by
 have one:Ex j st=.ok ()->j st.s=true:=by
  unfold Ex;split
  ·intro _;assumption
  ·intro h;cases h
 intro l;induction l with
 | nil=>
  intro m T T' i;simp only[BJ]at i;cases o:Ex j st with
  | error e=>rw[o]at i;cases i
  | ok u=>exact one o
 | cons t r C=>
  intro m T T' i;simp only[BJ]at i;split at i
  ·cases o:Ex j st with
   | error e=>rw[o]at i;cases i
   | ok u=>exact one o
  ·cases p:Ct T t with
   | error e=>rw[p]at i;cases i
   | ok I=>rw[p]at i;exact C i
def Df(l:List Tk):Prop:=∀t∈l,t.Cx
def Df.drop{l:List Tk}(h:Df l)(n:Nat):Df (l.drop n):=fun t i=>h t (List.mem_of_mem_drop i)
def Df.ID{l:List Tk}(h:Df l):Df (l.dropWhile Bg):=fun t i=>h t ((List.dropWhile_sublist Bg).mem i)
theorem Z0{l:List Tk}:∀t∈l.takeWhile Bg,Bg t=true:=by
 induction l with
 | nil=>intro t i;simp at i
 | cons a r j=>
  intro t i;rw[List.takeWhile_cons]at i;split at i
  ·rename_i ha
   rcases List.mem_cons.1 i with rfl|i
   ·exact ha
   ·exact j t i
  ·simp at i
def Df.SM{l:List Tk}(h:Df l):∀t∈l.takeWhile Bg,t.Cx/\Bg t=true:=fun t i=>⟨h t ((List.takeWhile_sublist Bg).mem i),Z0 t i⟩
structure Bl.Cx(x:Bl):Prop where
 decl:∀t∈x.decl,t.Cx/\Bg t=true
 same:x.marks.length=x.starts.length
variable{x:Bl}
theorem dF{C:Bl}{l J:List Tk}(p:x.Cx)(I:Df l)(i:Db x l=.ok (C,J)):C.Cx/\Df J/\C.rules=x.rules:=by
 unfold Db at i;cases l with
 | nil=>cases i
 | cons t r=>
  simp only at i;split at i
  ·split at i
   ·cases i
   ·injection i with i
    obtain⟨rfl,rfl⟩:=Prod.mk.inj i;have o:Df r:=fun t j=>I t (by simp[j])
    refine⟨⟨?_,p.same⟩,o.ID,rfl⟩;intro t j;rcases mA.1 j with j|j
    ·exact p.decl t j
    ·exact o.SM t j
  ·split at i
   ·split at i
    ·rename_i R P
     injection i with i;obtain⟨rfl,rfl⟩:=Prod.mk.inj i;have o:Df r:=fun t j=>I t (by simp[j])
     refine⟨⟨p.decl,?_⟩,o.drop 1,rfl⟩;cases r with
     | nil=>simp[Cu]at P
     | cons u T=>simp[p.same]
    ·cases i
   ·cases i
theorem Qg:∀(f:Nat) {x j:Bl} {l p:List Tk},x.Cx->Df l->FY f x l=.ok (j,p)->j.Cx/\Df p/\j.rules=x.rules
 | 0,_,_,_,_,_,_,i=>by cases i
 | f+1,x,j,l,p,C,t,i=>by
  simp only[FY]at i;split at i
  ·injection i with i
   obtain⟨rfl,rfl⟩:=Prod.mk.inj i;exact⟨C,t.drop 1,rfl⟩
  ·cases o:Db x l with
   | error e=>rw[o]at i;cases i
   | ok q=>obtain⟨x1,l1⟩:=q;rw[o]at i;obtain⟨I,J,P⟩:=dF C t o;obtain⟨R,T,U⟩:=Qg f I J i;exact⟨R,T,U.trans P⟩
def U1{l:List Tk}(i:Df l):∀t∈(BR l).l,t.Cx:=fun t j=>(i.SM t j).1
theorem Su:∀(f:Nat) {a:List PS} {l:List Tk},a≠[]->(∀s∈a,∀t∈s.l,t.Cx)->Df l ->
  (DR f a l).1≠[]/\(∀s∈(DR f a l).1,∀t∈s.l,t.Cx)/\Df (DR f a l).2
 | 0,a,l,h0,o,i=>⟨h0,o,i⟩
 | f+1,a,l,h0,o,i=>by
  simp only[DR];split
  ·refine Su f (by simp) ?_ (i.drop 1).ID
   intro s j;rcases mA.1 j with j|j
   ·exact o s j
   ·rw[mS.1 j];exact U1 (i.drop 1)
  ·exact⟨h0,o,i⟩
theorem R8{l p:List Tk}{r:PR}(j:Df l)(i:CO l=.ok (r,p)):r.Cx/\Df p:=by
 unfold CO at i;cases l with
 | nil=>cases i
 | cons t rest=>
  simp only at i;split at i
  ·cases i
  rename_i T;split at i
  ·split at i
   ·injection i with i
    obtain⟨rfl,rfl⟩:=Prod.mk.inj i;have o:Df rest:=fun t R=>j t (by simp[R])
    obtain⟨C,I,J⟩:=Su rest.length (a:=[BR (rest.drop 1)]) (l:=(rest.drop 1).dropWhile Bg) (by simp) (fun s P=>by rw[mS.1 P];exact U1 (o.drop 1)) (o.drop 1).ID;exact⟨⟨(j t (by simp)).1 (by omega),I,C⟩,J.drop 1⟩
   ·cases i
  ·cases i
theorem QN:∀(f:Nat) {a o:List PR} {l:List Tk},(∀r∈a,r.Cx)->Df l->FH f a l=.ok o->(∀r∈o,r.Cx)/\(a≠[]->o≠[])
 | 0,_,_,_,_,_,i=>by cases i
 | f+1,a,o,l,ha,I,i=>by
  simp only[FH]at i;split at i
  ·injection i with i
   subst i;exact⟨ha,id⟩
  ·cases p:CO l with
   | error e=>rw[p]at i;cases i
   | ok q=>
    obtain⟨r,T⟩:=q;rw[p]at i;obtain⟨t,C⟩:=R8 I p;obtain⟨J,P⟩:=QN f (a:=a++[r]) (fun R j=>by
     rcases mA.1 j with j|j
     ·exact ha R j
     ·rw[mS.1 j];exact t) C i
    exact⟨J,fun _=>P (by simp)⟩
theorem cU{l:List Tk}(I:Df l)(i:FD l=.ok x):x.Cx/\(∀r∈x.rules,r.Cx)/\x.rules≠[]:=by
 unfold FD at i;cases o:FY (l.length+1) ⟨[],[],[],[]⟩ l with
 | error e=>rw[o]at i;cases i
 | ok q=>
  obtain⟨x1,T⟩:=q;rw[o]at i;obtain⟨t,C,_⟩:=Qg _ ⟨by simp,rfl⟩ I o;simp only at i;cases p:CO T with
  | error e=>rw[p]at i;cases i
  | ok q=>
   obtain⟨r,U⟩:=q;rw[p]at i;obtain⟨P,R⟩:=R8 C p;simp only at i;cases j:FH (l.length+1) [r] U with
   | error e=>rw[j]at i;cases i
   | ok rs=>rw[j]at i;injection i with i;subst i;obtain⟨m1,m2⟩:=QN _ (fun r' J=>by rw[mS.1 J];exact P) R j;exact⟨⟨t.decl,t.same⟩,m1,m2 (by simp)⟩
theorem NF{p:UInt8->Bool}(l:List UInt8):l.take (l.takeWhile p).length=l.takeWhile p:=by
 induction l with
 | nil=>rfl
 | cons a r i=>
  rw[List.takeWhile_cons];split
  ·simp[i]
  ·rfl
theorem Ss{p:UInt8->Bool}(l:List UInt8):(l.takeWhile p).all p=true:=by
 induction l with
 | nil=>rfl
 | cons a r i=>
  rw[List.takeWhile_cons];split
  ·rename_i h;simp[h]
  ·rfl
theorem dW(r:List UInt8)(x:List UInt8):Bq (r.takeWhile E8++39::x)=Bq r:=by
 unfold Bq;induction r with
 | nil=>rfl
 | cons a r i=>
  by_cases h:E8 a=true
  ·simp[h]
   simpa using i
  ·simp[h]
   rfl
theorem Pn{sz p:Nat}{l:List UInt8}{n:Nat}(i:GK sz p l=.ok (k,n)):Tk.Cx ⟨k,l.take n,p⟩/\(0<l.length->0<n):=by
 unfold GK at i;cases l with
 | nil=>injection i with i;obtain⟨rfl,rfl⟩:=Prod.mk.inj i;exact⟨⟨(fun h=>by cases h),(fun h=>by cases h)⟩,fun h=>by simp at h⟩
 | cons c r=>
  simp only at i;split at i
  ·rename_i hw
   injection i with i;obtain⟨rfl,rfl⟩:=Prod.mk.inj i;exact⟨⟨(fun h=>by cases h),(fun h=>by cases h)⟩,fun _=>by unfold Cg;simp[hw]⟩
  split at i
  ·unfold JT at i
   split at i
   ·split at i
    ·cases i
    ·injection i with i;obtain⟨rfl,rfl⟩:=Prod.mk.inj i;exact⟨⟨(fun h=>by cases h),(fun h=>by cases h)⟩,fun _=>by omega⟩
   ·cases i
  split at i
  ·rename_i U
   subst U;unfold J9 at i;split at i
   ·cases i
   split at i
   ·cases i
   rename_i o;split at i
   ·cases i
   rename_i h3;injection i with i;obtain⟨rfl,rfl⟩:=Prod.mk.inj i;refine⟨⟨(fun h=>by cases h),fun _=>?_⟩,fun _=>by omega⟩;have t:r[Bq r]?=some 39:=by
    by_cases h:r[Bq r]?=some 39
    ·exact h
    ·exact absurd (.inl h) o
   have R:Bq r≠0:=fun h=>o (.inr h)
   have T:Bq r<r.length:=(sG.1 t).1;have ht:(39::r).take (Bq r+2)=39::(r.takeWhile E8++[39]):=by rw[List.take_succ_cons,List.take_succ_eq_append_getElem T,(sG.1 t).2];congr 2;exact NF r
   have P:=dW r [];have J:(r.takeWhile E8).length=Bq r:=rfl;show CF ((39::r).take (Bq r+2))=true;rw[ht];unfold CF;rw[List.drop_succ_cons,List.drop_zero,P];simp[J];refine⟨⟨⟨by omega,?_⟩,R⟩,by omega⟩;rw[show (39::(r.takeWhile E8++[(39:UInt8)]))[1+Bq r]?=(r.takeWhile E8++[(39:UInt8)])[Bq r]? by rw[Nat.add_comm];rfl];rw[List.getElem?_append_right (by omega),J];simp
  split at i
  ·unfold KE at i
   split at i
   ·injection i with i;obtain⟨rfl,rfl⟩:=Prod.mk.inj i;exact⟨⟨(fun h=>by cases h),(fun h=>by cases h)⟩,fun _=>by omega⟩
   split at i
   ·injection i with i;obtain⟨rfl,rfl⟩:=Prod.mk.inj i;exact⟨⟨(fun h=>by cases h),(fun h=>by cases h)⟩,fun _=>by omega⟩
   split at i
   ·injection i with i;obtain⟨rfl,rfl⟩:=Prod.mk.inj i;exact⟨⟨(fun h=>by cases h),(fun h=>by cases h)⟩,fun _=>by omega⟩
   ·cases i
  split at i
  ·rename_i C
   split at i
   ·cases i
   rename_i j;injection i with i;obtain⟨rfl,rfl⟩:=Prod.mk.inj i;have I:Cy c=true:=by unfold Cy;simp[C]
   refine⟨⟨fun _=>?_,(fun h=>by cases h)⟩,fun _=>by unfold Cg;simp[I]⟩;show CN ((c::r).take (Cg Cy (c::r)))=true;unfold Cg at j ⊢;rw[NF];rw[List.takeWhile_cons,if_pos I]at j ⊢;unfold CN D3;have:=Ss (p:=Cy) r;have e:((r.takeWhile Cy).all fun d=>BH d==4||BH d==3)=true:=this;simp only[e,C,Bool.and_true];simp at j ⊢;omega
  split at i
  ·rename_i P
   injection i with i;obtain⟨rfl,rfl⟩:=Prod.mk.inj i;refine⟨⟨fun h=>?_,fun h=>?_⟩,fun _=>by omega⟩
   ·unfold Jd at h;split at h;· cases h
    split at h;· cases h
    split at h<;>cases h
   ·unfold Jd at h;split at h;· cases h
    split at h;· cases h
    split at h<;>cases h
  ·cases i
theorem Sy{sz:Nat}:∀(f p:Nat) (l:List UInt8) {I:List Tk},Fg sz f p l=.ok I->Df I
 | 0,_,_,_,i=>by cases i
 | f+1,p,l,I,i=>by
  simp only[Fg]at i;split at i
  ·injection i with i;subst i
   intro t j;rw[mS.1 j];exact⟨(fun h=>by cases h),(fun h=>by cases h)⟩
  ·cases o:GK sz p l with
   | error e=>rw[o]at i;cases i
   | ok q=>
    obtain⟨k,n⟩:=q;rw[o]at i;simp only at i;cases C:Fg sz f (p+n) (l.drop n) with
    | error e=>rw[C]at i;cases i
    | ok P=>
     rw[C]at i;injection i with i;subst i;have J:=Sy f _ _ C;split
     ·exact J
     ·intro t j
      rcases List.mem_cons.1 j with rfl|j
      ·exact(Pn o).1
      ·exact J t j
structure PG.Good(g:PG):Prop where
 g1:g.T.length<=120
 g2:g.N.length<=120
 g3:g.R.length<=300
 g4:∀r∈g.R,r.2.length<=8
 g5:∀s∈g.T,(CN s||CF s)=true
 g6:∀s∈g.N,CN s=true
 g7:(g.T++g.N).Nodup
 g8:g.T.length<g.s/\g.s<=g.T.length+g.N.length
 g9:∀r∈g.R,(g.T.length<r.1/\r.1<=g.T.length+g.N.length)/\∀a∈r.2,1<=a/\a<=g.T.length+g.N.length
 g10:g.R.Nodup
 g11:∀i,i<g.N.length->∃r∈g.R,r.1=g.T.length+1+i
 g12:∀i j,i<j->j<g.N.length->g.R.findIdx (fun r=>r.1==g.T.length+1+i)<g.R.findIdx (fun r=>r.1==g.T.length+1+j)
theorem iZ(t:x.Cx)(i:Gn x=.ok T) :
  (T.length<=120/\T.Nodup/\∀s∈T,(CN s||CF s)=true)/\∀st l,x.starts=st::l->leftOf x st.s=true:=by
 unfold Gn at i;cases j:BJ (leftOf x) (BZ x) x.decl [] with
 | error e=>rw[j]at i;simp only at i;split at i<;>cases i
 | ok C=>
  rw[j]at i;simp only at i;split at i
  ·cases i
  injection i with i;subst i;refine⟨VG x.decl (BZ x) t.decl (by simp) (by simp) (by simp) j,?_⟩;intro st l p;have:∃m,BZ x=some (m,st):=by
   unfold BZ;rw[p];cases o:x.marks with
   | nil=>have:=t.same;rw[o,p]at this;simp at this
   | cons m I=>exact⟨m,rfl⟩
  obtain⟨m,o⟩:=this;rw[o]at j;exact ZQ _ j
theorem aX{s:AO}(h:CN s=true):CF s=false:=by
 cases s with
 | nil=>rfl
 | cons c r=>
  by_cases i:c=39
  ·subst i
   exfalso;have:CN (39::r)=false:=by show ((BH 39==4&&(r.all fun d=>BH d==4||BH d==3))&&decide ((39::r).length<=24))=false;rw[show (BH 39==4)=false from rfl];rfl
   rw[this]at h;cases h
  ·unfold CF
   simp[i]
def Mj{s:AO}(h:s∈T):B5 T N s=T.idxOf s+1:=by unfold B5;rw[if_pos (by simpa using h)]
def Nc{s:AO}(h:s ∉ T)(i:s∈N):B5 T N s=T.length+N.idxOf s+1:=by unfold B5;rw[if_neg (by simpa using h),if_pos (by simpa using i)]
def RG{a c:AO}(ha:a∈T\/a∈N)(j:c∈T\/c∈N)(h:B5 T N a=B5 T N c):a=c:=by
 have inj:∀{L:List AO} {a c:AO},a∈L->c∈L->L.idxOf a=L.idxOf c->a=c:=by intro L a c ha j h;have l:=List.getElem_idxOf (List.idxOf_lt_length_of_mem ha);have o:=List.getElem_idxOf (List.idxOf_lt_length_of_mem j);rw[<-l,<-o];congr 1
 by_cases i:a∈T
 ·have p:=List.idxOf_lt_length_of_mem i
  rw[Mj i]at h;by_cases c1:c∈T
  ·rw[Mj c1]at h
   exact inj i c1 (by omega)
  ·rw[Nc c1 (j.resolve_left c1)]at h
   omega
 ·rw[Nc i (ha.resolve_left i)]at h
  by_cases c1:c∈T
  ·have p:=List.idxOf_lt_length_of_mem c1
   rw[Mj c1]at h;omega
  ·rw[Nc c1 (j.resolve_left c1)]at h
   exact inj (ha.resolve_left i) (j.resolve_left c1) (by omega)
theorem Od{i:Type}{p q:i->Bool}:∀{l:List i},(∀x∈l,p x=q x)->l.findIdx p=l.findIdx q
 | [],_=>rfl
 | a::r,h=>by rw[List.findIdx_cons,List.findIdx_cons,h a (by simp),Od (fun x j=>h x (by simp[j]))]
theorem eQ{g:PG}(hx:x.Cx)(l:∀r∈x.rules,r.Cx)(a7:x.rules≠[])(t:Gr x=.ok g):g.Good:=by
 unfold Gr at t;cases R:Gn x with
 | error e=>rw[R]at t;cases t
 | ok T=>
  rw[R]at t;simp only at t;obtain⟨⟨t1,t2,t3⟩,ao⟩:=iZ hx R;cases hb:Dd (leftOf x) T.length ⟨T,[],[]⟩ x.rules with
  | error e=>rw[hb]at t;cases t
  | ok b=>
   rw[hb]at t;injection t with t;subst t;have aj:CX (leftOf x) T.length ⟨T,[],[]⟩:=⟨t1,by simp,by simp,t2,by simp,t3,by simp,by simp,by simp,AF _,by simp,by simp⟩
   obtain⟨j,ho,_,hl⟩:=CX.rules x.rules aj ⟨by simp,by simp⟩ l hb;have a6:∀s,leftOf x s=true->s∈b.N:=by intro s o;unfold leftOf at o;obtain⟨r,a9,aa⟩:=List.any_eq_true.1 o;rw[<-beq_iff_eq.1 aa];exact hl r a9
   have ab:∀s∈b.N,s ∉ b.T:=by
    intro s o U;rw[<-List.take_append_drop T.length b.T]at U;rcases mA.1 U with U|U
    ·exact j.i9 s o U
    ·have:=j.i8 s U
     rw[aX (j.i7 s o)]at this;cases this
   have hN:∀s∈b.N,B5 b.T b.N s=b.T.length+b.N.idxOf s+1:=fun s o=>Nc (ab s o) o
   have a0:∀s∈b.N,b.N.idxOf s<b.N.length:=fun s o=>List.idxOf_lt_length_of_mem o
   have ak:∀i (h:i<b.N.length),b.N.idxOf b.N[i]=i:=by intro i h;have C:=List.getElem_idxOf (a0 _ (List.getElem_mem h));exact(List.getElem_inj j.i5).1 C
   have ae:∀i (h:i<b.N.length),∀r∈b.R,((GO b.T b.N r).1==b.T.length+1+i)=(r.head?==some b.N[i]):=by
    intro i h r l;obtain⟨a,a3,rfl,ha,_⟩:=j.i10 r l;show (B5 b.T b.N a==b.T.length+1+i)=(some a==some b.N[i])
    rw[hN a ha,Bool.eq_iff_iff,beq_iff_eq,beq_iff_eq,Option.some.injEq];constructor
    ·intro e
     have e2:b.N.idxOf a=i:=by omega
     have C:=List.getElem_idxOf (a0 a ha);rw[<-C];congr 1
    ·rintro rfl
     rw[ak i h];omega
   have ad:∀i (h:i<b.N.length),(b.R.map (GO b.T b.N)).findIdx (fun r=>r.1==b.T.length+1+i)=b.R.findIdx (fun r=>r.head?==some b.N[i]):=by intro i h;rw[List.findIdx_map];exact Od (fun r l=>ae i h r l)
   refine⟨j.i1,j.i2,?_,?_,j.i6,j.i7,?_,?_,?_,?_,?_,?_⟩
   ·show (b.R.map _).length<=300
    simpa using j.i3
   ·intro r l
    obtain⟨r',a8,rfl⟩:=List.mem_map.1 l;obtain⟨a,a3,rfl,_,h8,_⟩:=j.i10 r' a8;simpa [GO] using h8
   ·show (b.T++b.N).Nodup
    rw[List.nodup_append];refine⟨j.i4,j.i5,?_⟩;rintro a ha c p rfl;exact ab a p ha
   ·show b.T.length<(G4 x b).s/\(G4 x b).s<=b.T.length+b.N.length
    unfold G4;simp only;cases o:x.starts with
    | nil=>
     simp only;have:0<b.N.length:=by
      cases af:x.rules with
      | nil=>exact absurd af a7
      | cons r a3=>exact List.length_pos_of_mem (hl r (by rw[af];simp))
     omega
    | cons st a3=>simp only;have hm:=a6 _ (ao st a3 o);rw[hN _ hm];have:=a0 _ hm;omega
   ·intro r l
    obtain⟨r',a8,rfl⟩:=List.mem_map.1 l;obtain⟨a,a3,rfl,ha,_,p⟩:=j.i10 r' a8;refine⟨?_,?_⟩
    ·show b.T.length<B5 b.T b.N a/\B5 b.T b.N a<=b.T.length+b.N.length
     rw[hN a ha];have:=a0 a ha;omega
    ·intro k hk
     obtain⟨c,ai,rfl⟩:=List.mem_map.1 hk;show 1<=B5 b.T b.N c/\B5 b.T b.N c<=b.T.length+b.N.length;by_cases C:c∈b.T
     ·rw[Mj C]
      have:=List.idxOf_lt_length_of_mem C;omega
     ·have J:=a6 c ((p c ai).resolve_left C)
      rw[hN c J];have:=a0 c J;omega
   ·show (b.R.map (GO b.T b.N)).Nodup
    rw[List.Nodup,List.pairwise_map];refine j.i11.imp_of_mem ?_;intro r1 r2 a9 aa a7;obtain⟨a1,P,rfl,ha1,_,ag⟩:=j.i10 r1 a9;obtain⟨a2,I,rfl,ha2,_,ah⟩:=j.i10 r2 aa;intro e;apply a7;have e1:B5 b.T b.N a1=B5 b.T b.N a2:=congrArg Prod.fst e;have e2:P.map (B5 b.T b.N)=I.map (B5 b.T b.N):=congrArg Prod.snd e;have R:∀c,(c∈b.T\/leftOf x c=true)->(c∈b.T\/c∈b.N):=fun c h=>h.imp id (a6 c)
    have an:∀{P I:List AO},(∀c∈P,c∈b.T\/c∈b.N)->(∀c∈I,c∈b.T\/c∈b.N)->P.map (B5 b.T b.N)=I.map (B5 b.T b.N)->P=I:=by
     intro P;induction P with
     | nil=>intro I _ _ e;cases I with
      | nil=>rfl
      | cons _ _=>cases e
     | cons c r ih=>intro I C J e;cases I with
      | nil=>cases e
      | cons d r2=>rw[List.map_cons,List.map_cons]at e;injection e with e1 e2;rw[RG (C c (by simp)) (J d (by simp)) e1,ih (fun c p=>C c (by simp[p])) (fun c p=>J c (by simp[p])) e2]
    rw[RG (.inr ha1) (.inr ha2) e1,an (fun c p=>R c (ag c p)) (fun c p=>R c (ah c p)) e2]
   ·intro i a4
    have a4:i<b.N.length:=a4;obtain⟨r,l,J⟩:=ho.mem b.N[i] (List.getElem_mem a4);refine⟨_,List.mem_map.2 ⟨r,l,rfl⟩,?_⟩;have:=ae i a4 r l;rw[J]at this;exact beq_iff_eq.1 (this.trans (by simp))
   ·intro i a5 al hj
    have hj:a5<b.N.length:=hj;show (b.R.map (GO b.T b.N)).findIdx (fun r=>r.1==b.T.length+1+i)<(b.R.map (GO b.T b.N)).findIdx (fun r=>r.1==b.T.length+1+a5);rw[ad i (by omega),ad a5 hj];exact ho.ord i a5 al _ _ (eG (by omega)) (eG hj)
theorem Sb{s:List UInt8}{g:PG}(i:Fk s=.ok g):g.Good:=by
 unfold Fk at i;cases j:tokens s with
 | error e=>rw[j]at i;cases i
 | ok l=>
  rw[j]at i;simp only at i;have I:Df l:=by
   unfold tokens at j;split at j
   ·cases j
   ·exact Sy _ _ _ j
  cases o:FD l with
  | error e=>rw[o]at i;cases i
  | ok x=>rw[o]at i;obtain⟨p,t,C⟩:=cU I o;exact eQ p t C i
theorem fE{a:AO}(h:CN a=true):∃c r,a=c::r/\BH c=4/\(c::r).all Cy=true/\(c::r).length<=24:=by
 cases a with
 | nil=>cases h
 | cons c r=>unfold CN D3 at h;simp only[Bool.and_eq_true,decide_eq_true_eq,beq_iff_eq]at h;obtain⟨⟨i,o⟩,l⟩:=h;refine⟨c,r,rfl,i,?_,l⟩;have j:r.all Cy=true:=o;simp only[List.all_cons,j,Bool.and_true];simp[Cy,i]
theorem cE{a:AO}(h:CF a=true):∃m,a=39::(m++[39])/\m.all E8=true/\m≠[]/\m.length<23:=by
 cases a with
 | nil=>cases h
 | cons c r=>
  unfold CF at h;simp only[List.head?_cons,List.drop_succ_cons,List.drop_zero,Bool.and_eq_true,beq_iff_eq,decide_eq_true_eq,bne_iff_ne,ne_eq,Option.some.injEq,List.length_cons]at h;obtain⟨⟨rfl,⟨⟨o,i⟩,j⟩,p⟩,t⟩:=h;rw[Nat.add_comm,List.getElem?_cons_succ]at i;have l:Bq r<r.length:=(sG.1 i).1;refine⟨r.takeWhile E8,?_,Ss r,?_,?_⟩
  ·have:r=r.take (Bq r+1):=(De (by omega)).symm
   rw[List.take_succ_eq_append_getElem l,(sG.1 i).2]at this;have e:r.take (Bq r)=r.takeWhile E8:=NF r;rw[e]at this;rw[<-this]
  ·intro e
   apply j;unfold Bq;rw[e];rfl
  ·show Bq r<23
   omega
namespace PG
end PG
namespace PG
end PG
namespace PG
variable {g:PG}
end PG
def Bb(S k:Nat):Nat:=S/2 ^ (64*k)%18446744073709551616
def nW(n:Nat):Nat:=(n+63)/64
def Kc(S k:Nat):Bb S k<18446744073709551616:=Nat.mod_lt _ (by decide)
def Ic(S k j:Nat):(Bb S k).testBit j=(decide (j<64)&&S.testBit (64*k+j)):=by unfold Bb;rw[show (18446744073709551616:Nat)=2 ^ 64 from rfl,Nat.testBit_mod_two_pow,Nat.testBit_div_two_pow,Nat.add_comm]
def OQ(S T k:Nat):Bb (S|||T) k=Bb S k|||Bb T k:=by apply Nat.eq_of_testBit_eq;intro j;rw[Nat.testBit_or,Ic,Ic,Ic,Nat.testBit_or];cases decide (j<64)<;>simp
def Pw{S n:Nat}(h:S<2 ^ n)(j:n<=i):S.testBit i=false:=Nat.testBit_lt_two_pow (Ba h (Nat.pow_le_pow_right (by decide) j))
def RR{S T n:Nat}(i:S<2 ^ n)(j:T<2 ^ n):S|||T<2 ^ n:=Nat.or_lt_two_pow i j
def WQ{n:Nat}(j:i<n):2 ^ i<2 ^ n:=Nat.pow_lt_pow_right (by decide) j
def UD(i k:Nat):Bb (2 ^ i) k=if k=i/64 then 2 ^ (i%64) else 0:=by
 apply Nat.eq_of_testBit_eq;intro j;rw[Ic,Nat.testBit_two_pow];split
 ·rename_i o
  rw[Nat.testBit_two_pow];by_cases l:j<64
  ·rw[decide_eq_true l,Bool.true_and,decide_eq_decide]
   omega
  ·rw[decide_eq_false l,Bool.false_and]
   symm;rw[decide_eq_false_iff_not];omega
 ·rw[Nat.zero_testBit]
  by_cases l:j<64
  ·rw[decide_eq_true l,Bool.true_and,decide_eq_false_iff_not]
   omega
  ·rw[decide_eq_false l,Bool.false_and]
def kO(x j:Nat):x &&& 2 ^ j=if x.testBit j then 2 ^ j else 0:=by
 apply Nat.eq_of_testBit_eq;intro i;rw[Nat.testBit_and,Nat.testBit_two_pow];by_cases l:j=i
 ·subst l
  cases h:x.testBit j<;>simp[Nat.testBit_two_pow_self]
 ·rw[decide_eq_false l,Bool.and_false]
  split
  ·rw[Nat.testBit_two_pow_of_ne l]
  ·rw[Nat.zero_testBit]
def U4(S i:Nat):Bb S (i/64) &&& 2 ^ (i%64)=if S.testBit i then 2 ^ (i%64) else 0:=by rw[kO,Ic,decide_eq_true (by omega:i%64<64),Bool.true_and,show 64*(i/64)+i%64=i by omega]
def ZK(S i:Nat):Bb (S|||2 ^ i) (i/64)=Bb S (i/64)|||2 ^ (i%64):=by rw[OQ,UD,if_pos rfl]
def VX(S i k:Nat)(h:k≠i/64):Bb (S|||2 ^ i) k=Bb S k:=by rw[OQ,UD,if_neg h,Nat.or_zero]
def Xi{S n:Nat}(h:S<2 ^ n)(l:n%64≠0):Bb S (nW n-1) &&& (2 ^ (n%64)-1)=Bb S (nW n-1):=by
 apply Nat.eq_of_testBit_eq;intro j;rw[Nat.testBit_and,Nat.testBit_two_pow_sub_one,Ic];by_cases i:j<n%64
 ·rw[decide_eq_true i,Bool.and_true]
 ·rw[Pw h (by unfold nW;omega)]
  simp
def S7(S i j:Nat):(Bb S (i/64)/2 ^ (i%64)).testBit j=(decide (j+i%64<64)&&S.testBit (i+j)):=by rw[Nat.testBit_div_two_pow,Ic,show 64*(i/64)+(j+i%64)=i+j by omega]
def Bp(n S:Nat):List Nat:=(List.range n).filter fun i=>S.testBit i
def LS(n S i:Nat):Option Nat:=((List.range n).filter fun j=>decide (i<=j)&&S.testBit j).head?
def eV{n S:Nat}(C:k<n)(p:S.testBit k=true)(t:i<=k)(h:∀j,i<=j->j<k->S.testBit j=false):LS n S i=some k:=by
 unfold LS;rw[show n=k+(n-k) by omega,List.range_add,List.filter_append,List.filter_eq_nil_iff.2,List.nil_append]
 ·rw[show n-k=(n-k-1)+1 by omega,List.range_succ_eq_map,List.map_cons,List.filter_cons,if_pos (by simp[p,t])]
  rfl
 ·intro j o
  rw[List.mem_range]at o;by_cases l:i<=j
  ·simp[h j l o]
  ·simp[l]
def Z7{n S:Nat}(h:∀j,i<=j->j<n->S.testBit j=false):LS n S i=none:=by
 unfold LS;rw[List.filter_eq_nil_iff.2]
 ·rfl
 ·intro j o
  rw[List.mem_range]at o;by_cases l:i<=j
  ·simp[h j l o]
  ·simp[l]
structure Aj(X:Nat->Prop)(w w':World):Prop where
 os:w'.os=w.os
 tape:w'.tape=w.tape
 output:w'.output=w.output
 size:w.heap.size<=w'.heap.size
 block:∀k,k<w.heap.size->¬X k->w'.heap[k]?=w.heap[k]?
variable{w':World}
namespace Aj
variable {X Y:Nat->Prop} {a b c:World}
def refl(X:Nat->Prop)(w:World):Aj X w w:=⟨rfl,rfl,rfl,AF _,fun _ _ _=>rfl⟩
def AJ(h:Below a a b):Aj X a b:=⟨h.os,h.tape,h.output,h.size,fun k i _=>h.block k i⟩
def trans(h:Aj X a b)(k:Aj Y b c)(o:∀i,i<a.heap.size->Y i->X i):Aj X a c:=
 ⟨k.os.trans h.os,k.tape.trans h.tape,k.output.trans h.output,AW h.size k.size,fun i j l=>(k.block i (Ba j h.size) (fun p=>l (o i j p))).trans (h.block i j l)⟩
def next(h:Aj X a b)(k:Aj X b c):Aj X a c:=h.trans k fun _ _ h=>h
def mono(h:Aj X a b)(j:∀i,X i->Y i):Aj Y a b:=⟨h.os,h.tape,h.output,h.size,fun i l p=>h.block i l (fun o=>p (j i o))⟩
def alloc(h:Aj X a b)(o:Obj):Aj X a (b.alloc o):=h.next (AJ ⟨rfl,rfl,rfl,by simp,fun k i=>Below.heap_alloc _ _ _ i⟩)
def drew(h:Aj X a b):Aj X a b.drew:=⟨h.os,h.tape,h.output,h.size,h.block⟩
def set(h:Aj X a b){p:Addr}(i:a.heap.size<=p.block\/X p.block)(u:Value):Aj X a (b.setCell p u):=
 ⟨h.os,h.tape,h.output,by simpa [World.setCell] using h.size,fun k l j=>(Below.heap_setCell _ _ _ _ (by rintro rfl;rcases i with i|i;omega;exact j i)).trans (h.block k l j)⟩
def Ap{g:Nat}(h:Aj X a b)(i:Ah a g t cs)(j:¬X g):Ah b g t cs:=(h.block g i.lt j).trans i
def own{base:Nat}{size n:Nat}{v:Value}(h:Aj X a b)(j:a.ownsRow base e size v n xs)(t:∀g,v.ownBlock=some g->¬X g):b.ownsRow base e size v n xs:=by
 refine⟨j.1,?_⟩;rcases j.2 with p|⟨g,cap,l,rfl,o,i,rest⟩
 ·exact .inl p
 ·refine .inr ⟨g,cap,l,rfl,o,?_,rest⟩
  rw[h.block g (aG.1 i).1 (t g rfl),i]
def below(h:Aj X a b)(l:B<=a.heap.size)(i:∀k,k<B->¬X k):Below B a b:=⟨h.os,h.tape,h.output,h.size,fun k j=>h.block k (by omega) (i k j)⟩
end Aj
structure AH where
 h:Nat
 wb:Nat
 n:Nat
variable{n:Nat}
def CW(n S:Nat):Array Value:=((List.range (nW n)).map fun k=>Value.int .u64 (Bb S k:Nat)).toArray
structure AP(w:World)(s:AH)(S:Nat):Prop where
 head:Ah w s.h 261 #[s.n,.slice (s.wb,0) (nW s.n) (nW s.n)]
 words:Ah w s.wb 256 (CW s.n S)
 small:1<=s.n/\s.n<=4096
 fit:S<2 ^ s.n
variable{S:Nat}{s:AH}
def AH.v(s:AH):Value:=(s.h,0)
variable{v:Value}
def NQ(n S k:Nat)(h:k<nW n):(CW n S)[k]?=some (.int .u64 (Bb S k:Nat)):=by unfold CW;rw[List.getElem?_toArray,pG,List.getElem?_range h];rfl
def Ah.newAt{w:World}{b:Nat}(i:w.heap.size=b):Ah (w.alloc (.cells cs t)) b t cs:=by subst i;exact Ah.new w t cs
def Js{z:Value}{bytes:Nat}(I:P.underlying t=some (.slice e))(h:(P.info? e).map (fun i=>(i.zero,i.size,i.bytes))=some (some z,1,bytes))(J:z.cells=#[z]){l:Int}(p:l=n)(hb:bytes*n<=281474976710656)(hn:n<=4611686018427387904)(y:World) :
  (Instr.makeSlice t l l).run P y=.ok (.slice (y,0) n n) (y.alloc (.cells (Array.replicate n z) e)):=by
 obtain⟨i,o,R,T,U⟩:=info_parts h;subst p;have j:(i.bytes:Int)*(n:Int)<=281474976710656:=by rw[U,<-Int.natCast_mul];omega
 have C:=run_make (P:=P) y t e i z I o R .i64 .i64 n n (by omega) (Int.le_refl _) j (by omega);rw[C,T,Int.toNat_natCast,Nat.mul_one,J];congr 4;unfold madeCells;apply Array.ext
 ·simp
 ·intro a0 h1 j
  simp[Nat.mod_one]
def fB(n:Nat):CW n 0=Array.replicate (nW n) (.int .u64 0):=by
 unfold CW;apply Array.ext
 ·simp
 ·intro j i l
  simp[Bb]
def LO{w:World}(i:1<=n)(j:n<=4096):() 157 #[n] w fun e w'=>e=.returned (AH.v ⟨w.heap.size+1,w.heap.size,n⟩)/\AP w' ⟨w.heap.size+1,w.heap.size,n⟩ 0/\Below w w w':=by
 have l:=fun y=>Js (P:=Tryz.prog) (t:=259) (e:=256) (z:=.int .u64 0) (bytes:=8) Tryz.underlying259 (by kernel_rfl) rfl (l:=((n:Int)+63)/64) (n:=nW n) (by unfold nW;omega) (by unfold nW;omega) (by unfold nW;omega) y
 rw[<-fB]at l;go_enter Tryz.func157,Tryz.ntmps157
 go_wp2;go_ret;refine⟨rfl,⟨?_,?_,⟨i,j⟩,Nat.two_pow_pos _⟩,?_⟩
 ·exact Ah.newAt (by simp)
 ·exact(Ah.new w _ _).alloc _
 ·exact((Below.refl _ w).alloc (AF _) _).alloc (by simp) _
def O2(i:Nat)(j:i<9223372036854775808):bits .and .i64 (i:Int) 63=((i%64:Nat):Int):=by show IntKind.i64.wrap ((BitVec.ofInt 64 (i:Int) &&& BitVec.ofInt 64 ((63:Nat):Int)).toNat:Int)=_;rw[BitVec.toNat_and,ofInt_u64 i (by omega),ofInt_u64 63 (by omega),nat_mask6,IntKind.wrap_i64];omega
def RI(i:Nat):IntKind.u64.wrap (2 ^ min (IntKind.u64.wrap ((i%64:Nat):Int)).toNat 64)=((2 ^ (i%64):Nat):Int):=by
 have h:i%64<64:=by omega
 simp only[IntKind.wrap_u64];rw[show (((i%64:Nat):Int)%18446744073709551616).toNat=i%64 by omega,Nat.min_eq_left (by omega)];have l:2 ^ (i%64)<2 ^ 64:=Nat.pow_lt_pow_right (by decide) h;have j:((2:Int) ^ (i%64))=((2 ^ (i%64):Nat):Int):=by norm_cast
 rw[j];clear j;generalize 2 ^ (i%64)=p at *;omega
def Pp{a b:Bool}(h:a=b):Ending.returned (.bool a)=Ending.returned (.bool b):=by rw[h]
section
variable {w:World} {s:AH} {S:Nat}
def AP.later(h:AP w s S)(i:Below w w w'):AP w' s S:=⟨h.head.below i h.head.lt,h.words.below i h.words.lt,h.small,h.fit⟩
def AP.drewN(h:AP w s S)(n:Nat):AP (w.drewN n) s S:=⟨h.head,h.words,h.small,h.fit⟩
def AP.cells(h:AP w s S):w.cell? (s.h,0)=some (.int .i64 s.n)/\w.cell? (s.h,1)=some (.slice (s.wb,0) (nW s.n) (nW s.n)):=⟨h.head.cell 0,h.head.cell 1⟩
def AP.word(h:AP w s S)(i:k<nW s.n):w.cell? (s.wb,k)=some (.int .u64 (Bb S k:Nat)):=(h.words.cell k).trans (NQ _ _ _ i)
def AP.AE{X:Nat->Prop}(h:AP w s S)(i:Aj X w w')(j:¬X s.h)(l:¬X s.wb):AP w' s S:=⟨i.Ap h.head j,i.Ap h.words l,h.small,h.fit⟩
def AP.ne(h:AP w s S):s.h≠s.wb:=Ah.Bf h.head h.words (by decide)
set_option maxRecDepth 100000
def MS(h:AP w s S):() 191 #[s.v] w fun e w'=>e=.returned s.n/\w'=w:=by
 obtain⟨i,-⟩:=h.cells;unfold AH.v;go_enter Tryz.func191,Tryz.ntmps191
 go_wp2;go_ret;exact⟨rfl,rfl⟩
def Qq(h:AP w s S)(l:i<s.n):() 158 #[s.v,i] w fun e w'=>e=.returned (.tuple #[.int .i64 ((i/64:Nat):Int),.int .u64 ((2 ^ (i%64):Nat):Int),.bool true])/\w'=w:=by
 have j:=Hd (MS h);unfold AH.v at *;go_enter Tryz.func158,Tryz.ntmps158
 go_wp2_with (go_at_call 191;refine j.mono ?_;rintro e w' ⟨rfl,rfl⟩)
 rw[O2 i (by have:=h.small;omega),RI]
 go_ret3
 exact⟨rfl,rfl⟩
def YL(h:AP w s S)(p:i<s.n):() 203 #[s.v,i] w fun e w'=>e=.returned (.bool (S.testBit i))/\w'=w:=by
 have o:=Hd (Qq h p);obtain⟨-,c1⟩:=h.cells;have t:i/64<nW s.n:=by unfold nW;omega
 have c2:=h.word t;have l:=Kc S (i/64);have C:2 ^ (i%64)<18446744073709551616:=Nat.pow_lt_pow_right (a:=2) (m:=i%64) (n:=64) (by decide) (by omega);have ha:=u64_and_nat _ _ l C;rw[U4]at ha;unfold AH.v at *;cases j:S.testBit i with
 | true=>
  rw[j,if_pos rfl]at ha;have I:¬(2 ^ (i%64)=0):=Nat.ne_of_gt (Nat.two_pow_pos _);generalize 2 ^ (i%64)=b at *;generalize Bb S (i/64)=u at *;generalize i/64=k at *;generalize nW s.n=m at *;clear j l;go_enter Tryz.func203,Tryz.ntmps203
  go_wp2_with (go_at_call 158;refine o.mono ?_;rintro e w' ⟨rfl,rfl⟩)
  go_ret;exact⟨Pp (by simp[I]),rfl⟩
 | false=>
  rw[j,if_neg (by simp)]at ha;generalize 2 ^ (i%64)=b at *;generalize Bb S (i/64)=u at *;generalize i/64=k at *;generalize nW s.n=m at *;clear j l;go_enter Tryz.func203,Tryz.ntmps203
  go_wp2_with (go_at_call 158;refine o.mono ?_;rintro e w' ⟨rfl,rfl⟩)
  go_ret;exact⟨rfl,rfl⟩
def AP.set(h:AP w s S){k:Nat}(J:k<nW s.n){T:Nat}(t:T<2 ^ s.n)(o:∀j,j≠k->Bb T j=Bb S j){u:Int}(C:u=(Bb T k:Nat)):AP (w.setCell (s.wb,k) (.int .u64 u)) s T:=by
 subst C;refine⟨h.head.BA h.ne _,?_,h.small,t⟩;have p:=h.words.Be k (.int .u64 (Bb T k:Nat));have e:(CW s.n S).setIfInBounds k (.int .u64 (Bb T k:Nat))=CW s.n T:=by
  unfold CW;apply Array.ext
  ·simp
  ·intro j I l
   rw[Array.getElem_setIfInBounds (by simpa using l)];simp only[List.getElem_toArray,List.getElem_map,List.getElem_range];split
   ·rename_i i
    subst i;rfl
   ·rename_i i
    rw[o j (fun e=>i e.symm)]
 rw[<-e];exact p
def AH.X(s:AH)(k:Nat):Prop:=k=s.wb
def Nh(h:AP w s S)(C:i<s.n):() 106 #[s.v,i] w fun e w'=>e=.returned (.bool (!S.testBit i))/\AP w' s (S|||2 ^ i)/\Aj s.X w w':=by
 have p:=Hd (Qq h C);have T:=Hd h;obtain⟨-,c1⟩:=h.cells;have J:i/64<nW s.n:=by unfold nW;omega
 have c2:=h.word J;have o:=Kc S (i/64);have R:2 ^ (i%64)<18446744073709551616:=Nat.pow_lt_pow_right (a:=2) (m:=i%64) (n:=64) (by decide) (by omega);have ha:=u64_and_nat _ _ o R;have P:=u64_or_nat _ _ o R;rw[U4]at ha;rw[<-ZK]at P;have a0:=h.words.frozen (i/64);cases l:S.testBit i with
 | true=>
  have t:S|||2 ^ i=S:=by
   apply Nat.eq_of_testBit_eq;intro j;rw[Nat.testBit_or,Nat.testBit_two_pow];by_cases I:i=j
   ·subst I;rw[l];rfl
   ·rw[decide_eq_false I,Bool.or_false]
  rw[l,if_pos rfl]at ha;have a1:¬(2 ^ (i%64)=0):=Nat.ne_of_gt (Nat.two_pow_pos _);have a2:(((2 ^ (i%64):Nat):Int) != 0)=true:=by rw[bne_iff_ne];omega
  rw[t]at *;clear P t;unfold AH.v at *;generalize 2 ^ (i%64)=b at *;generalize Bb S (i/64)=u at *;generalize i/64=k at *;generalize nW s.n=m at *;clear l o h a0;go_enter Tryz.func106,Tryz.ntmps106
  go_wp2_with (go_at_call 158;refine p.mono ?_;rintro e w' ⟨rfl,rfl⟩)
  go_ret;exact⟨rfl,T,Aj.refl _ _⟩
 | false=>
  have U:Hid (AP (w.setCell (s.wb,i/64) (.int .u64 (Bb (S|||2 ^ i) (i/64):Nat))) s (S|||2 ^ i)):=Hd (h.set J (RR h.fit (WQ C)) (fun j hj=>VX S i j hj) rfl);rw[l,if_neg (by simp)]at ha;unfold AH.v at *;generalize 2 ^ (i%64)=b at *;generalize Bb S (i/64)=u at *;generalize Bb (S|||2 ^ i) (i/64)=u2 at *;generalize i/64=k at *;generalize nW s.n=m at *;clear l o h;go_enter Tryz.func106,Tryz.ntmps106
  go_wp2_with (go_at_call 158;refine p.mono ?_;rintro e w' ⟨rfl,rfl⟩)
  go_ret;exact⟨rfl,U,(Aj.refl s.X _).set (p:=(s.wb,k)) (.inr rfl) _⟩
end
def dS:El Tryz.prog 259 256 1 8:=El.of (z:=.int .u64 0) Tryz.underlying259 (by kernel_rfl) rfl (by decide)
def DJ(w:World)(o:Obj):Below w w (w.alloc o):=(Below.refl _ w).alloc (AF _) o
def kX{w:World}{ad:Addr}{c:Nat}(l:∀y,Below w w y->AY y (.slice (some ad) n c) n 1 xs)(T:n<=1048576) :
  () 205 #[.slice (some ad) n c] w fun e w'=>∃A j,e=.returned (.slice A n j)/\w'.ownsRow w 256 1 (.slice A n j) n xs/\Below w w w':=by
 have I:=Hd l;have J:Hid (∀y:World,y=w.alloc (.cells #[] 256)->y.ownsRow w 256 1 (.slice (w,0) 0 0) 0 []):=Hd (fun y P=>by rw[P];exact Mf (W:=w) rfl (AF _) (by decide) rfl);have U:∀(y:World) (ad:Addr) (n c:Nat),(binOp BinOp.eql 259 (.slice (some ad) n c) (.slice none 0 0)).run Tryz.prog y=.ok (.bool false) y:=fun _ _ _ _=>by kernel_rfl
 clear l;go_enter Tryz.func205,Tryz.ntmps205
 go_wp2_with (
   at_builtin;refine Dc dS (.tmp 5) (.tmp 6) rfl rfl (base:=w.heap.size) (n:=0) (m:=n) (N:=n) (xs:=[]) (news:=xs) rfl rfl (J _ rfl) (I _ (DJ w _)) (by omega) (by unfold maxLen;omega) (by omega) (by simp) ?_
   intro C c2 t o p R;have i:Hid (t.ownsRow w 256 1 (.slice C n c2) n xs/\Below w w t):=Hd ⟨by simpa using o,(DJ w _).trans (p.below (by simp))⟩;clear o p R)
 go_ret;exact⟨_,_,rfl,i.1,i.2⟩
def Rf{i:Type}{l:List i}{v:i}(h:l[k]?=some v):l.set k v=l:=by obtain⟨j,rfl⟩:=sG.1 h;exact List.set_getElem_self j
section
variable {w:World} {s:AH} {S:Nat}
def AP.src(h:AP w s S):AY w (.slice (s.wb,0) (nW s.n) (nW s.n)) (nW s.n) 1 (CW s.n S).toList:=by
 refine AY.Ap (g:=s.wb) (t:=256) (by simpa using h.words) ?_ ?_
 ·unfold CW;simp
 ·intro u i
  unfold CW at i;simp only[List.mem_map]at i;obtain⟨k,_,rfl⟩:=i;rfl
def Y3(h:AP w s S):() 193 #[s.v,s.n] w fun e w'=>∃A c,e=.returned (.slice A (nW s.n) c)/\w'.ownsRow w 256 1 (.slice A (nW s.n) c) (nW s.n) (CW s.n S).toList/\Below w w w':=by
 have t:=Hd (kX (n:=nW s.n) (c:=nW s.n) (ad:=(s.wb,0)) (fun y hy=>(h.later hy).src) (by have:=h.small;unfold nW;omega));obtain⟨c0,c1⟩:=h.cells;have ag:=h.small;have hm:((s.n:Int)+63)/64=(nW s.n:Nat):=by unfold nW;omega
 have T:1<=nW s.n:=by unfold nW;omega
 have a0:=O2 s.n (by omega);have P:s.n%64≠0->Bb S (nW s.n-1) &&& (2 ^ (s.n%64)-1)=Bb S (nW s.n-1):=Xi h.fit;have a8:(CW s.n S).toList.length=nW s.n:=by unfold CW;simp
 have C:(CW s.n S).toList[nW s.n-1]?=some (.int .u64 (Bb S (nW s.n-1):Nat)):=by have:=NQ s.n S (nW s.n-1) (by omega);simpa using this
 have U:=Kc S (nW s.n-1);have af:=RI s.n;have hp:2 ^ (s.n%64)<18446744073709551616:=Nat.pow_lt_pow_right (a:=2) (m:=s.n%64) (n:=64) (by decide) (by omega);have aa:0<2 ^ (s.n%64):=Nat.two_pow_pos _;have hand:=u64_and_nat (Bb S (nW s.n-1)) (2 ^ (s.n%64)-1) U (by omega);have a2:w.frozen? (s.h,0)=false:=h.head.frozen 0;unfold AH.v;generalize (CW s.n S).toList=xs at *;generalize a9:nW s.n=m at *;generalize s.n%64=r at *;generalize 2 ^ r=p at *;generalize Bb S (m-1)=u at *;clear h;by_cases I:r=0
 ·subst I
  go_enter Tryz.func193,Tryz.ntmps193
  go_wp2_with (go_at_call 205;refine t.mono ?_;rintro e w' ⟨A,c,rfl,i,j⟩;have o:=Hd i;have l:=Hd j;clear i j)
  go_ret;exact⟨_,_,rfl,o,l⟩
 ·rw[P I]at hand
  have J:(0:Int)<(m:Int):=by omega
  have ad:IntKind.u64.wrap ((p:Int)-1)=((p-1:Nat):Int):=by rw[IntKind.wrap_u64];omega
  have ae:((r:Int) != 0)=true:=by rw[bne_iff_ne];omega
  have ab:0<m:=T;clear J;go_enter Tryz.func193,Tryz.ntmps193
  go_wp2_with (
    go_at_call 205;refine t.mono ?_;rintro e w' ⟨A,c,rfl,i,j⟩
    have o:=Hd i;have l:=Hd j;rcases Bi i with⟨_,h0⟩|⟨g,c',R,a4,a5,a6,a7,-⟩
    ·omega
    cases R
    have a1:=(Bh i (m-1) (by omega)).trans C;have a3:=G2 i (m-1);clear i j)
  go_ret;refine⟨_,_,rfl,?_,l.trans ?_⟩
  ·have h:=Gu o (m-1) (by omega) (.int .u64 u)
   rwa [Rf C]at h
  ·exact⟨rfl,rfl,rfl,by simp[World.setCell],fun k hk=>Below.heap_setCell _ _ _ _ (by show k≠g;omega)⟩
def bC(w:World)(n:Int):() 193 #[.pointer none,n] w fun e w'=>e=.returned (.slice none 0 0)/\w'=w:=by
 go_enter Tryz.func193,Tryz.ntmps193
 go_wp2;go_ret;exact⟨rfl,rfl⟩
def C0(S T j:Nat):Nat:=S|||(T%2 ^ (64*j))
def eX(T j k:Nat):Bb (T%2 ^ (64*j)) k=if k<j then Bb T k else 0:=by
 apply Nat.eq_of_testBit_eq;intro i;rw[Ic,Nat.testBit_mod_two_pow];split
 ·rename_i h
  rw[Ic];by_cases l:i<64
  ·rw[decide_eq_true (by omega:64*k+i<64*j),Bool.true_and]
  ·rw[decide_eq_false l,Bool.false_and,Bool.false_and]
 ·rename_i h
  rw[decide_eq_false (by omega:¬64*k+i<64*j),Bool.false_and,Bool.and_false,Nat.zero_testBit]
def JE(S T j k:Nat):Bb (C0 S T j) k=if k<j then Bb S k|||Bb T k else Bb S k:=by
 unfold C0;rw[OQ,eX];split
 ·rfl
 ·rw[Nat.or_zero]
def XA{T:Nat}(i:S<2 ^ n)(l:T<2 ^ n)(j:Nat):C0 S T j<2 ^ n:=RR i (Nat.lt_of_le_of_lt (Nat.mod_le _ _) l)
def RN(S T:Nat):C0 S T 0=S:=by unfold C0;simp[Nat.mod_one]
def WW{T:Nat}(j:S<2 ^ n)(i:T<2 ^ n):C0 S T (nW n)=S|||T:=by unfold C0;rw[Nat.mod_eq_of_lt];exact Ba i (Nat.pow_le_pow_right (by decide) (by unfold nW;omega))
def cV{a b:Nat}(ha:a<18446744073709551616)(C:b<18446744073709551616):a &&& (18446744073709551615-b)=0<->b|||a=b:=by
 have o:∀i,(18446744073709551615-b).testBit i=(decide (i<64)&&!b.testBit i):=by intro i;have:=Nat.testBit_two_pow_sub_succ (n:=64) (x:=b) (by omega) i;rw[show 2 ^ 64-(b+1)=18446744073709551615-b by omega]at this;exact this
 constructor
 ·intro h
  apply Nat.eq_of_testBit_eq;intro i;have j:=congrArg (fun x=>x.testBit i) h;simp only[Nat.testBit_and,o,Nat.zero_testBit]at j;rw[Nat.testBit_or];by_cases p:i<64
  ·rw[decide_eq_true p,Bool.true_and]at j
   cases l:a.testBit i
   ·rw[Bool.or_false]
   ·rw[l,Bool.true_and]at j
    cases t:b.testBit i
    ·rw[t]at j;cases j
    ·rfl
  ·rw[Pw (n:=64) ha (by omega),Bool.or_false]
 ·intro h
  apply Nat.eq_of_testBit_eq;intro i;have j:=congrArg (fun x=>x.testBit i) h;simp only[Nat.testBit_or]at j;rw[Nat.testBit_and,o,Nat.zero_testBit];cases l:a.testBit i
  ·rw[Bool.false_and]
  ·rw[l,Bool.or_true]at j
   rw[<-j];simp
def Z5{T j:Nat}:C0 S T (j+1)=C0 S T j<->Bb S j|||Bb T j=Bb S j:=by
 constructor
 ·intro h
  have:=congrArg (fun x=>Bb x j) h;simp only[JE]at this;rwa [if_pos (by omega),if_neg (by omega)]at this
 ·intro h
  apply Nat.eq_of_testBit_eq;intro i;have e:∀x:Nat,x.testBit i=(Bb x (i/64)).testBit (i%64):=fun x=>by rw[Ic,decide_eq_true (by omega:i%64<64),Bool.true_and,show 64*(i/64)+i%64=i by omega]
  rw[e,e,JE,JE];by_cases o:i/64=j
  ·rw[o,if_pos (by omega),if_neg (by omega),h]
  ·by_cases l:i/64<j
   ·rw[if_pos (by omega),if_pos l]
   ·rw[if_neg (by omega),if_neg l]
end
def XZ{w:World}{t:AH}{T:Nat}(h:AP w s S)(ht:AP w t T)(hn:t.n=s.n):() 162 #[s.v,t.v] w fun e w'=>e=.returned (.bool (C0 S T (nW s.n) != S))/\AP w' s (C0 S T (nW s.n))/\Aj s.X w w':=by
 have HR:=Hd (MS h);have HW:=Hd (Y3 ht);rw[hn]at HW;have HH:=Hd h;have a1:=ht.fit;rw[hn]at a1;have al:=h.words.lt;have ar:=h.small;have ao:1<=nW s.n:=by unfold nW;omega
 have an:nW s.n<=64:=by unfold nW;omega
 have a7:∀k,k<nW s.n->(CW s.n T).toList[k]?=some (.int .u64 (Bb T k:Nat)):=fun k o=>by have:=NQ s.n T k o;simpa using this
 have ak:(CW s.n T).toList.length=nW s.n:=by unfold CW;simp
 generalize (CW s.n T).toList=xs at *;have HG:=Hd a7;have aa:Hid (∀(y:World) (X:Nat),AP y s X->y.cell? (s.h,1)=some (.slice (s.wb,0) (nW s.n) (nW s.n))/\∀k,k<nW s.n->y.cell? ⟨s.wb,k,none⟩=some (.int .u64 (Bb X k:Nat))/\y.frozen? ⟨s.wb,k,none⟩=false):=Hd (fun y X J=>⟨J.cells.2,fun k o=>⟨J.word o,J.words.frozen k⟩⟩);have ad:Hid (∀(y:World) (X p k:Nat),AP y s X->k<nW s.n->p<2 ^ s.n->(∀j,j≠k->Bb p j=Bb X j)->∀u:Int,u=(Bb p k:Nat)->AP (y.setCell ⟨s.wb,k,none⟩ (.int .u64 u)) s p):=Hd (fun y X p k J o hX h1 u hu=>J.set o hX h1 hu);have HF:Hid (∀j,C0 S T j<2 ^ s.n):=Hd (XA h.fit a1)
 unfold AH.v at *;clear h ht a7 a1;generalize hm:nW s.n=m at *;go_enter Tryz.func162,Tryz.ntmps162
 go_wp2_with (first
  | (go_at_call 191;refine HR.mono ?_;rintro e w' ⟨rfl,rfl⟩)
  | (
    go_at_call 193;refine HW.mono ?_;rintro e w1 ⟨A,c,rfl,a5,i⟩
    have ab:=Hd a5;have HB:=Hd i;rcases Bi a5 with⟨_,h0⟩|⟨g,c',he,ag,ah,ai,aj,-⟩
    · omega
    cases he
    clear a5 i))
 go_loopw [5,13] (fun ch a6 wr=>∃k:Nat,k<=m/\a6=.int .i64 k/\ch=.bool (C0 S T k != S)/\Hid (AP wr s (C0 S T k))/\Hid (Aj s.X w1 wr)) (fun _ a6 _=>m-(intOf a6).toNat)
 case atStart=>exact⟨0,AX _,rfl,by rw[RN];simp,Hd (by rw[RN];exact HH.later HB),Hd (Aj.refl _ _)⟩
 case round=>
  obtain⟨k,o,rfl,rfl,l,P⟩:=hrel;by_cases a2:k<m
  ·obtain⟨d1,d2⟩:=aa wr _ l
   obtain⟨d3,d4⟩:=d2 k a2;have C:=Z5 (S:=S) (T:=T) (j:=k);have af:wr.cell? ⟨g,k,none⟩=some (.int .u64 (Bb T k:Nat)):=by have hr:=P.own ab (fun b i=>by cases i;show ¬g=s.wb;omega);exact(Bh hr k (by omega)).trans (HG k a2)
   have i:=Kc T k;have ha:=Kc S k;have e1:Bb (C0 S T k) k=Bb S k:=by rw[JE,if_neg (by omega)]
   have R:Bb (C0 S T (k+1)) k=Bb S k|||Bb T k:=by rw[JE,if_pos (by omega)]
   rw[e1]at d3;have hand:=u64_andNot_nat _ _ i ha;have ae:=u64_or_nat _ _ ha i;have U:=cV i ha;clear d2;by_cases I:Bb T k &&& (18446744073709551615-Bb S k)=0
   · have a3:=C.2 (U.1 I)
     rw[I]at hand;have a0:Hid (AP wr s (C0 S T (k+1))):=Hd (by rw[a3];exact l);have a4:(C0 S T (k+1) != S)=(C0 S T k != S):=by rw[a3]
     generalize (C0 S T k != S)=ch at *;clear l a3 U C I e1 R ae;generalize Bb T k=b at *;generalize Bb S k=a at *;go_wp2_with fail
     go_roundw
     case rel=>exact⟨k+1,by omega,by go_num,by rw[a4],a0,P⟩
     case measure=>simp[intOf];omega
   · have a9:¬C0 S T (k+1)=C0 S T k:=fun e=>I (U.2 (C.1 e))
     have a4:(C0 S T (k+1) != S)=true:=by rw[bne_iff_ne];intro e;have e3:=congrArg (fun x=>Bb x k) e;simp only[R]at e3;exact a9 (C.2 e3)
     have a0:Hid (AP (wr.setCell ⟨s.wb,k,none⟩ (.int .u64 ((Bb S k|||Bb T k:Nat):Int))) s (C0 S T (k+1))):=Hd (ad wr _ _ k l a2 (HF _) (fun j hj=>by
       rw[JE,JE];by_cases a8:j<k
       ·rw[if_pos (by omega),if_pos a8]
       ·rw[if_neg (by omega),if_neg a8]) _ (by rw[R]))
     have aq:(((Bb T k &&& (18446744073709551615-Bb S k):Nat):Int) != 0)=true:=by rw[bne_iff_ne];omega
     generalize (C0 S T k != S)=ch at *;clear l U C I e1 R a9;generalize Bb T k &&& (18446744073709551615-Bb S k)=z at *;generalize Bb S k|||Bb T k=au at *;generalize Bb T k=b at *;generalize Bb S k=a at *;go_wp2_with fail
     go_roundw
     case rel=>exact⟨k+1,by omega,by go_num,by rw[a4],a0,Hd (P.set (p:=⟨s.wb,k,none⟩) (.inr rfl) _)⟩
     case measure=>simp[intOf];omega
  ·obtain rfl:k=m:=by omega
   go_wp2_with fail
   go_ret;exact⟨rfl,l,((Aj.AJ HB).next P)⟩
theorem or_nil{w:World}(h:AP w s S):() 162 #[s.v,.pointer none] w fun e w'=>e=.returned (.bool false)/\w'=w:=by
 have j:=Hd (MS h);have l:=Hd (bC w s.n);unfold AH.v at *;clear h;go_enter Tryz.func162,Tryz.ntmps162
 go_wp2_with (first
  | (go_at_call 191;refine j.mono ?_;rintro e w' ⟨rfl,rfl⟩)
  | (go_at_call 193;refine l.mono ?_;rintro e p ⟨rfl,rfl⟩))
 go_loopw [5,13] (fun o i wr=>i=.int .i64 0/\o=.bool false/\wr=p) (fun _ i _=>0)
 case atStart=>exact⟨rfl,rfl,rfl⟩
 case round=>
  obtain⟨rfl,rfl,rfl⟩:=hrel;go_wp2_with fail
  go_ret;exact⟨rfl,rfl⟩
def ER(n S i:Nat):Int:=match LS n S i with|some k=>(k:Int)|none => -1
def NU(p:k<n)(l:S.testBit k=true)(o:i<=k)(h:∀j,i<=j->j<k->S.testBit j=false):ER n S i=k:=by unfold ER;rw[eV p l o h]
def LN(h:∀j,i<=j->j<n->S.testBit j=false):ER n S i = -1:=by unfold ER;rw[Z7 h]
def bM(i:Nat)(t:i<9223372036854775000):bits .or .i64 (i:Int) 63=((i/64*64+63:Nat):Int):=by
 show IntKind.i64.wrap ((BitVec.ofInt 64 (i:Int)|||BitVec.ofInt 64 ((63:Nat):Int)).toNat:Int)=_;have e:i|||63=i/64*64+63:=by
  apply Nat.eq_of_testBit_eq;intro j;have o:=Nat.testBit_two_pow_sub_one 6 j;rw[show 2 ^ 6-1=63 by rfl]at o;have p:i/64*64+63=2 ^ 6*(i/64)+63:=by omega
  rw[Nat.testBit_or,o,p,Nat.testBit_two_pow_mul_add _ (by decide),o];by_cases l:j<6
  ·rw[if_pos l,decide_eq_true l,Bool.or_true]
  ·rw[if_neg l,decide_eq_false l,Bool.or_false,show (64:Nat)=2 ^ 6 by rfl,Nat.testBit_div_two_pow,show j-6+6=j by omega]
 rw[BitVec.toNat_or,ofInt_u64 i (by omega),ofInt_u64 63 (by omega),e,IntKind.wrap_i64];omega
def kR(h:Bb S (i/64)/2 ^ (i%64)=0):∀j,i<=j->j<i/64*64+64->S.testBit j=false:=by intro j l o;have e:=S7 S i (j-i);rw[h,Nat.zero_testBit,decide_eq_true (by omega:j-i+i%64<64),Bool.true_and,show i+(j-i)=j by omega]at e;exact e.symm
def OI{w:World}{i0:Nat}(h:AP w s S)(hi:i0<=5000):() 160 #[s.v,i0] w fun e w'=>e=.returned (.int .i64 (ER s.n S i0))/\w'=w:=by
 have U:=Hd (MS h);have HH:=Hd h;obtain⟨-,c1⟩:=h.cells;have ak:=h.small;unfold AH.v at *;clear h;go_enter Tryz.func160,Tryz.ntmps160
 go_wp2_with fail
 go_loopw [5] (fun i wr=>∃k:Nat,k<=9000/\i=.int .i64 k/\wr=w/\Hid (i0<=k/\∀j,i0<=j->j<k->S.testBit j=false)) (fun i _=>9000-(intOf i).toNat)
 case atStart=>exact⟨i0,by omega,rfl,rfl,Hd ⟨AF _,fun j o P=>by omega⟩⟩
 case round=>
  obtain⟨k,hk,rfl,rfl,I⟩:=hrel;by_cases aj:k<s.n
  ·have c2:=HH.word (k:=k/64) (by unfold nW;omega)
   have af:((k/64:Nat):Int)=(k:Int)/64:=by omega
   have ab:=O2 k (by omega);have ag:k/64<nW s.n:=by unfold nW;omega
   have ad:=bM k (by omega);have ae:((Bb S (k/64):Nat):Int)/2 ^ (k%64)=((Bb S (k/64)/2 ^ (k%64):Nat):Int):=by norm_cast
   have a2:Bb S (k/64)/2 ^ (k%64)<18446744073709551616:=Nat.lt_of_le_of_lt (Nat.div_le_self _ _) (Kc _ _);have a3:=S7 S k;have a4:Bb S (k/64)/2 ^ (k%64)=0->_:=kR;have HZ:=Hd a4;have HT:=Hd a3;clear a4 a3;generalize a1:Bb S (k/64)/2 ^ (k%64)=R at *;by_cases T:R=0
   ·have HB:Hid (i0<=k/64*64+64/\∀j,i0<=j->j<k/64*64+64->S.testBit j=false):=Hd ⟨by have:=I.1;omega,fun j o P=>by
     by_cases C:j<k
     ·exact I.2 j o C
     ·exact HZ T j (by omega) P⟩
    have ai:((R:Int)==0)=true:=by rw[T];rfl
    clear a1 T HZ HT;go_wp2_with (go_at_call 191;refine U.mono ?_;rintro e w' ⟨rfl,rfl⟩)
    go_roundw
    case rel=>exact⟨k/64*64+64,by omega,by go_num,trivial,HB⟩
    case measure=>simp[intOf];omega
   ·have ai:((R:Int)==0)=false:=by rw[bN];omega
    have aa:=Hd T;clear a1 T HZ;go_wp2_with (go_at_call 191;refine U.mono ?_;rintro e w' ⟨rfl,rfl⟩)
    rename World=>wz
    clear ab ad af ag c2 U;go_loopw [5,6] (fun i r wr=>∃t x:Nat,t<=63/\i=.int .i64 ((k:Int)+t)/\r=.int .u64 x/\wr=wz/\¬(x=0)/\Hid (x=R/2 ^ t/\∀j,j<t->R.testBit j=false)) (fun i _ _=>k+64-(intOf i).toNat)
    case atStart=>exact⟨0,R,by omega,by simp,by rw[ae],rfl,aa,Hd ⟨by simp,fun j C=>absurd C (Nat.not_lt_zero _)⟩⟩
    case round=>
     obtain⟨t,x,ht,rfl,rfl,rfl,an,l⟩:=hrel;have a7:x<18446744073709551616:=by rw[l.1];exact Nat.lt_of_le_of_lt (Nat.div_le_self _ _) a2
     have hand:bits .and .u64 (x:Int) 1=((x%2:Nat):Int):=by rw[<-nat_mask1];exact u64_and_nat x 1 a7 (by decide)
     have a6:R.testBit t=decide (x%2=1):=by rw[l.1,Nat.testBit_eq_decide_div_mod_eq]
     have J:=Hd a6;clear a6;by_cases hq:x%2=0
     ·rw[hq,Int.natCast_zero]at hand
      have al:t+1<=63:=by
       by_cases p:t+1<=63
       ·exact p
       ·exfalso
        have o:t=63:=by omega
        have P:x<2:=by rw[l.1,o];exact Nat.div_lt_of_lt_mul (by omega)
        omega
      have a9:Hid (x/2=R/2 ^ (t+1)/\∀j,j<t+1->R.testBit j=false):=Hd ⟨by rw[l.1,Nat.div_div_eq_div_mul,Nat.pow_succ],fun j C=>by
       by_cases he:j=t
       ·rw[he,J.out,hq];rfl
       ·exact l.2 j (by omega)⟩
      have ah:¬x/2=0:=by omega
      clear l J a7 a2;go_wp2_with fail
      go_roundw
      case rel=>exact⟨t+1,x/2,by omega,by go_num,by go_num,trivial,ah,a9⟩
      case measure=>simp[intOf];omega
     ·have a0:x%2=1:=by omega
      rw[a0,Int.natCast_one]at hand;have a8:Hid (ER s.n S i0=((k+t:Nat):Int)):=Hd (by
       have hT:=HT t;rw[J.out,decide_eq_true a0]at hT;have hS:S.testBit (k+t)=true:=by
        cases p:S.testBit (k+t)
        ·rw[p,Bool.and_false]at hT;cases hT
        ·rfl
       refine NU ?_ hS (by have:=I.1;omega) ?_
       ·by_cases p:k+t<s.n
        ·exact p
        ·rw[Pw HH.fit (by omega)]at hS;cases hS
       ·intro j o P
        by_cases C:j<k
        ·exact I.2 j o C
        ·have h3:=HT (j-k)
         rw[l.2 (j-k) (by omega),decide_eq_true (by
          by_cases p:j-k+k%64<64
          ·exact p
          ·exfalso
           have a5:=HT t;rw[J.out,decide_eq_true a0,decide_eq_false (by omega),Bool.false_and]at a5;cases a5),Bool.true_and,show k+(j-k)=j by omega]at h3
         exact h3.symm)
      clear l J;go_wp2_with fail
      go_ret;exact⟨by rw[a8.out];rfl,rfl⟩
  ·have HN:=Hd (LN (n:=s.n) (S:=S) (i:=i0) (fun j o P=>I.2 j o (by omega)))
   go_wp2_with (go_at_call 191;refine U.mono ?_;rintro e w' ⟨rfl,rfl⟩)
   go_ret;exact⟨by rw[HN.out];rfl,rfl⟩
def CG{w:World}{size:Nat}(h:w.ownsRow B e size v n xs):∃A c,v=.slice A n c:=by
 rcases Bi h with⟨rfl,rfl⟩|⟨b,c,rfl,_⟩
 ·exact⟨none,0,rfl⟩
 ·exact⟨_,c,rfl⟩
section
variable {P:Program} {ops:Array Oper} {Q:Exit->Act->World->Prop} {md:Region.Mode} {S:World->Prop} {z:Nat}
def Eo(P:Program)(md:Region.Mode)(ops:Array Oper)(Q:Exit->Act->World->Prop)(S:World->Prop)(z:Nat):Nat->Array Bool->Act->World->Prop
 | 0,listed,a,w=>Region.ready md ops listed=[]/\Q .normal a w
 | f+1,listed,a,w=>(Region.ready md ops listed=[]->Q .normal a w)/\∀i∈Region.ready md ops listed,wpOp P ops Q i (fun l j=>(i≠z->S j)/\Eo P md ops Q S z f (listed.setIfInBounds i true) l j) a w
theorem TW:∀(f:Nat) (listed:Array Bool) (a:Act) (w:World),Eo P md ops Q S z f listed a w->wpAny P md ops Q f listed a w
 | 0,_,_,_,h=>h
 | f+1,_,_,_,h=>⟨h.1,fun i o=>wpOp_mono (fun j p l=>TW f _ j p l.2) (h.2 i o)⟩
def DU{id:Nat}{w:World}(z:Nat)(S:World->Prop)(i:P.follows .mixedOrders=true)(h:Eo P .any ops Q S z ops.size (Array.replicate ops.size false) a w.drew):(Code.region id ops true).wp P Q a w:=
 wp_region_any i (TW _ _ _ _ h)
def VV(hi:ops[i]?=some J)(a7:∀(j:Nat) (o:Oper) cs b,ops[j]?=some o->o.op ≠ .select cs b)(hQ:∀c a w,Q (.panic c) (a.put J.dst v) w->Q (.panic c) a w)(hz:Region.waitsFor md ops z i=true) :
  ∀(f:Nat) (listed:Array Bool) (a:Act) (w:World),(∀j l,ops[j]?=some l->j≠i->listed.getD j true=false->(∀e∈l.after,Region.binds md e=true->e.on≠i)->J.apart ops l=true) ->
   i∈Region.ready md ops listed->YieldsIf P ops S J v a->S w->Eo P md ops Q S z f (listed.setIfInBounds i true) (a.put J.dst v) w->Eo P md ops Q S z (f+1) listed a w:=by
 obtain⟨oz,a6,ez,aa,a9,af⟩:=Region.waitsFor_spec hz;have ag:∀(listed:Array Bool) (j:Nat) (l:Oper),i∈Region.ready md ops listed->ops[j]?=some l->j∈Region.ready md ops listed->∀e∈l.after,Region.binds md e=true->e.on≠i:=fun listed j l p I C e he hb heq=>by
  obtain⟨_,ah,a5,a8⟩:=mem_ready.1 C;rw[I]at a5;cases a5
  have T:=a8 e he hb;rw[heq,getD_both (mem_ready.1 p).1]at T;cases T
 intro f;induction f with
 | zero=>
  intro listed a w _ p hy R H;refine⟨fun h=>(by rw[h]at p;cases p),fun j C=>?_⟩;by_cases t:j=i
  ·subst t;exact hy.wpOp hi R ⟨fun _=>R,H⟩
  ·have U:=ready_mono C t
   rw[H.1]at U;cases U
 | succ f ih=>
  intro listed a w a0 p hy R H;refine⟨fun h=>(by rw[h]at p;cases p),fun j C=>?_⟩;by_cases t:j=i
  ·subst t;exact hy.wpOp hi R ⟨fun _=>R,H⟩
  ·have T:=H.2 j (ready_mono C t)
   obtain⟨a2,l,I,_⟩:=mem_ready.1 C;have a4:=ag listed j l p I C;have ab:j≠z:=fun e=>by
    subst e;rw[I]at a6;cases a6
    exact a4 ez aa a9 af
   have U:=wpOp_putIf I (a0 j l I t a2 a4) (fun cs b=>a7 i J cs b hi) (fun cs b=>a7 j l cs b I) hQ hy T;refine wpOp_mono (fun a' w' h3=>⟨h3.2.1,ih (listed.setIfInBounds j true) a' w' (fun k ok hk ad a3 ae=>a0 k ok hk ad ?_ ae) (ready_mono p (Ne.symm t)) h3.1 (h3.2.1 ab) ?_⟩) U
   ·by_cases a1:j=k
    ·subst a1;exact a2
    ·rw[getD_set_ne true a1]at a3;exact a3
   ·rw[Array.setIfInBounds_comm _ _ t]
    exact h3.2.2
def J8(i:Nat){j:Oper}{w:World}(p:ops[i]?=some j)(T:Region.noSelect ops=true)(J:Region.free md ops listed i=true)(R:(Region.ready md ops listed).contains i=true)(hz:Region.waitsFor md ops z i=true)
  (t:∀c a w,Q (.panic c) (a.put j.dst v) w->Q (.panic c) a w) (U:YieldsIf P ops S j v {tmps:=l.toArray,defers:=o}) (C:S w) (I:j.dst=some d)
  (h:Eo P md ops Q S z f (listed.setIfInBounds i true) {tmps:=(l.set d v).toArray,defers:=o} w):Eo P md ops Q S z (f+1) listed {tmps:=l.toArray,defers:=o} w:=by
 refine VV p (Region.noSelect_spec T) t hz f listed _ w (Region.free_spec p J) (by simpa using R) U C ?_;rw[I];simpa [Act.put] using h
def AA(i:Nat){j:Oper}{w:World}(t:S w)(h:Eo P md ops Q S z f (listed.setIfInBounds i true) {tmps:=(l.set d v).toArray,defers:=o} w)
  (R:ops[i]?=some j:=by rfl) (U:Region.noSelect ops=true:=by kernel_rfl) (J:Region.free md ops listed i=true:=by kernel_rfl) (T:(Region.ready md ops listed).contains i=true:=by kernel_rfl) (hz:Region.waitsFor md ops z i=true:=by kernel_rfl)
  (p:∀c a w,Q (.panic c) (a.put j.dst v) w->Q (.panic c) a w:=by exact fun _ _ _ h=>h) (hy:YieldsIf P ops S j v {tmps:=l.toArray,defers:=o}:=by(refine Or.inl ⟨by rfl,?_⟩;intro w C;(try dsimp only at C);go_simp;try with_reducible rfl)) (I:j.dst=some d:=by rfl):Eo P md ops Q S z (f+1) listed {tmps:=l.toArray,defers:=o} w:=
 J8 i R U J T hz p hy t I h
def Aw{i:Type}{x:i}{xs:List i}{y:i}:(x::xs).set (n+1) y=x::xs.set n y:=rfl
def Ay{i:Type}{x:i}{xs:List i}{y:i}:(x::xs).set 0 y=y::xs:=rfl
def Bk(i:Nat){o:Oper}{w:World}(p:Region.ready md ops listed=[i])(J:ops[i]?=some o)(I:o.guard=none)
  (h:∀K:Act->World->Prop,Shut (∀a w,(i≠z->S w)->Eo P md ops Q S z f (listed.setIfInBounds i true) a w->K a w)->o.wp P a w K Q):Eo P md ops Q S z (f+1) listed a w:=by
 refine⟨fun h0=>(by rw[p]at h0;cases h0),fun j l=>?_⟩;rw[p,mS]at l;subst l;unfold wpOp;rw[J];simp only;rw[if_pos (by unfold Region.wanted;rw[I])];exact .inl (h _ fun a w t C=>⟨t,C⟩)
def FX(i:Nat){o:Oper}{w:World}(T:Region.ready md ops listed=[i])(R:ops[i]?=some o)(J:o.guard=none)(I:o.dst=some d)
  (h:∀K:Act->World->Prop,Shut (∀v w,(i≠z->S w)->Eo P md ops Q S z f (listed.setIfInBounds i true) {tmps:=(l.set d v).toArray,defers:=j} w->K (({tmps:=l.toArray,defers:=j}:Act).put o.dst v) w)->o.wp P {tmps:=l.toArray,defers:=j} w K Q):Eo P md ops Q S z (f+1) listed {tmps:=l.toArray,defers:=j} w:=by
 refine Bk i T R J fun K C=>h K fun v w p t=>?_
 refine C _ _ p ?_;rw[I];simpa [Act.put] using t
theorem Dy{w:World}(i:Region.ready md ops listed=[])(h:Q .normal a w):∀f,Eo P md ops Q S z f listed a w
 | 0=>⟨i,h⟩
 | _+1=>⟨fun _=>h,by rw[i];simp⟩
end
structure Wd(I:World->Prop) where
 w:World
 ok:I w
variable{w:World}
def KI{f:FuncId}{I:World->Prop}(h:Calls P f args w fun e w'=>e=.returned v/\I w') :
 Calls P f args w fun e w'=>e=.returned v/\∃y:Wd I,w'=y.w:=h.mono fun _ _ ⟨i,j⟩=>⟨i,⟨_,j⟩,rfl⟩
def Uf(I:World->Prop){id:Nat}{l:List Oper}(o:P.follows .mixedOrders=true)(j:Region.lexB .any l.toArray=true)
  (h0:I w.drew) (h:wpQuiet P l.toArray (fun w'=>∃y:Wd I,w'=y.w) (fun i=>∀w',(∃y:Wd I,w'=y.w)->Q .normal i w') l a):(Code.region id l.toArray true).wp P Q a w:=
 wp_region_quiet (C:=fun w'=>∃y:Wd I,w'=y.w) o j ⟨⟨w.drew,h0⟩,rfl⟩ (by simpa using h)
namespace Aj
variable {X Y:Nat->Prop} {a b c:World}
def put(h:Aj X a b){r:Nat}(i:a.heap.size<=r\/X r)(o:Obj):Aj X a (b.putObj r o):=
 ⟨h.os,h.tape,h.output,by simpa using h.size,fun k l j=>(World.putObj_heap_other (by rintro rfl;rcases i with i|i;omega;exact j i)).trans (h.block k l j)⟩
end Aj
def BU(A:Nat->Prop)(w w':World):Prop:=∀b,A b->w'.heap[b]?=w.heap[b]?
def BU.refl(A:Nat->Prop)(w:World):BU A w w:=fun _ _=>rfl
def BU.trans{a b c:World}(h:BU A a b)(k:BU A b c):BU A a c:=fun i j=>(k i j).trans (h i j)
def Ju{l:Type}(B:Nat)(J:l->(Nat->Prop)->World->Prop):Prop:=
 ∀s A i W j,J s A W->Aj (fun b=>B<=b/\A b) W j->(∀b,i b->A b\/W.heap.size<=b)->J s i j
def Seq{t:Type}(P:Program)(gf:Nat)(lb:Array Value)(C:t->Array Value)(xs:List t)(o:Nat->Prop)(w:World):Prop:=
 ∀(l:Nat) (J:List t->(Nat->Prop)->World->Prop) (p:Unit->(Nat->Prop)->World->Prop) (W:World),Aj (fun _=>False) w W->Ju W.heap.size J->Ju W.heap.size p ->
  (∀pre x A j,J pre A j->pre++[x] <+: xs->(∀b,o b->A b)->(∀b,A b->b<j.heap.size)->YieldAt Fence.wide 0 P l (C x) j fun e i=>j.heap.size<=i.heap.size/\BU A j i/\((e=.returned (.bool true)/\J (pre++[x]) A i)\/(e=.returned (.bool false)/\p () A i))) ->
  J [] o W ->
  CallsIn Fence.wide 0 P gf (#[.func (.yield l) #[] #[]]++lb) W fun e i=>(∃v,e=.returned v)/\∃A:Nat->Prop,(∀b,o b->A b)/\(∀b,A b->b<i.heap.size)/\(J xs A i\/p () A i)
def WL{l:Type}(I:List l->(Nat->Prop)->World->Prop)(j:Code->(Nat->Prop)->World->Prop)(xs:List l)(A:Nat->Prop)(W:World):Exit->Act->World->Prop
 | .normal,_,i=>W.heap.size<=i.heap.size/\BU A W i/\I xs A i
 | .ret,_,i=>W.heap.size<=i.heap.size/\BU A W i/\j .ret A i
 | .exit id,_,i=>W.heap.size<=i.heap.size/\BU A W i/\j (.exit id) A i
 | .goto t,_,i=>W.heap.size<=i.heap.size/\BU A W i/\j (.goto t) A i
 | .panic _,_,_=>False
 | .outgrown,_,_=>False
def Ju.step{j:Type}{J:j->(Nat->Prop)->World->Prop}(h:Ju B J){s:j}{i:World}(o:J s A W)(l:Aj (fun b=>B<=b/\A b) W i):J s A i:=h s A A W i o l (fun _=>.inl)
def Qs{j:Type}(P:Program)(T:j->Array Value)(U:Array Tmp)(assign R:Code)(tmps:Array Value)(xs:List j)(t:Nat->Prop)(B:Nat)(I:List j->(Nat->Prop)->World->Prop)(C:Code->(Nat->Prop)->World->Prop):Prop:=
 ∀(l:Nat) (pre:List j) (x:j) (A:Nat->Prop) (W:World),pre++[x] <+: xs->B<=l->l<W.heap.size->A l->(∀b,t b->A b)->(∀b,A b->b<W.heap.size)->I pre A W ->
  assign.wpIn (Fence.wide.inRound l) 0 P (Exit.then (fun J o=>W.heap.size<=o.heap.size/\BU A W o/\∀i,Aj (·=l) o i->o.heap.size=i.heap.size->(∃r,i.heap[l]?=some (.loop r)) ->
   R.wpIn (Fence.wide.inRound l) 0 P (WL I C (pre++[x]) A i) J i) (fun _ _ _=>False))
   {tmps:=(U.zip (T x)).foldl (fun a0 (p,v)=>a0.setIfInBounds p v) tmps,defers:=[]} W
section
variable {P:Program}
def rounds{a2:α->Array Value}{assign body:Code}{tmps:Array Value}{xs:List α}{A₀:Nat->Prop}{I:List α->(Nat->Prop)->World->Prop}{Ix:Code->(Nat->Prop)->World->Prop}
  (hI:Ju B I) (hIx:∀c,Ju B (fun(_:Unit)=>Ix c)) (hr:Qs P a2 ps assign body tmps xs A₀ B I Ix) (aj:∀x,(a2 x).size=ps.size) {fn:FuncId} {l:Nat} (hl:B<=l) {X:Nat->Prop} (hX:X l)
  (j:LoopState->Option Code->Loop) (a6:j=fun st pe=>{state:=st,pending:=pe,fn,tmps,params:=ps,assign,body,defers:=D})
  {pre:List α} {x:α}   (hi:I pre (fun b=>A b\/X b) W) (a7:W.heap[l]?=some (.loop (j .ready none))) (hA:¬A l) (hp:pre++[x] <+: xs) (ak:∀b,A₀ b->A b) (ag:∀b,A b->b<W.heap.size) (ah:∀b,X b->b<W.heap.size) :
  YieldAt Fence.wide 0 P l (a2 x) W fun e R=>W.heap.size<=R.heap.size/\BU A W R/\(∀b,X b->b≠l->R.heap[b]?=W.heap[b]?) /\
   (
    (e=.returned (.bool true)/\I (pre++[x]) (fun b=>A b\/X b) R/\R.heap[l]?=some (.loop (j .ready none))) \/
    (e=.returned (.bool false)/\∃c,Ix c (fun b=>A b\/X b) R/\R.heap[l]?=some (.loop (j .done (some c))))):=by
 have af:l<W.heap.size:=(aG.1 a7).1;have hy:=run_yield (P:=P) (args:=a2 x) a7 (by rw[a6];exact aj x);rw[a6]at hy;refine⟨fn,_,assign,body,hy,roundIn_of_wpIn trivial (wpIn_mono (hr l pre x _ W hp hl af (.inr hX) (fun b p=>.inl (ak b p)) (fun b p=>p.elim (ag b) (ah b)) hi) ?_)⟩;intro e a' J h;cases e with
 | normal=>
  obtain⟨al,ad,p⟩:=h;have ab:J.heap[l]?=some (.loop (j .ready none)):=(ad l (.inr hX)).trans a7;have ai:l<J.heap.size:=(aG.1 ab).1;refine⟨_,run_beginRound ab (by rw[a6]),?_⟩;have a9:(J.putObj l (.loop {j .ready none with state:=.busy})).heap[l]?=some (.loop {j .ready none with state:=.busy}):=World.putObj_heap_same ai;have ae:Aj (·=l) J (J.putObj l (.loop {j .ready none with state:=.busy})):=(Aj.refl (·=l) J).put (r:=l) (.inr rfl) _;refine wpIn_mono (p _ ae (by simp) ⟨_,a9⟩) ?_;have a4:∀(i:Option Code) (o:World),(J.putObj l (.loop {j .ready none with state:=.busy})).heap.size<=o.heap.size->BU (fun b=>A b\/X b) (J.putObj l (.loop {j .ready none with state:=.busy})) o ->
     (Instr.endRound l i).run P o=.ok (.bool i.isNone) (o.putObj l (.loop (j (if i.isNone then .ready else .done) i))) /\
     W.heap.size<=(o.putObj l (.loop (j (if i.isNone then .ready else .done) i))).heap.size /\
     BU A W (o.putObj l (.loop (j (if i.isNone then .ready else .done) i))) /\
     (∀b,X b->b≠l->(o.putObj l (.loop (j (if i.isNone then .ready else .done) i))).heap[b]?=W.heap[b]?) /\
     (o.putObj l (.loop (j (if i.isNone then .ready else .done) i))).heap[l]?=some (.loop (j (if i.isNone then .ready else .done) i)) /\
     Aj (fun b=>B<=b/\(A b\/X b)) o (o.putObj l (.loop (j (if i.isNone then .ready else .done) i))):=fun i o C t=>by
   have aa:o.heap[l]?=some (.loop {j .ready none with state:=.busy}):=(t l (.inr hX)).trans a9;have h1:=run_endRound (P:=P) i aa;have hx:∀b,(A b\/X b)->b≠l->(o.putObj l (.loop (j (if i.isNone then .ready else .done) i))).heap[b]?=W.heap[b]?:=fun b p a5=>(World.putObj_heap_other a5).trans ((t b p).trans ((World.putObj_heap_other a5).trans (ad b p)))
   refine⟨?_,?_,fun b p=>hx b (.inl p) (fun e=>hA (e▸p)),fun b p a5=>hx b (.inr p) a5,World.putObj_heap_same (aG.1 aa).1,(Aj.refl _ _).put (.inr ⟨hl,.inr hX⟩) _⟩
   · rw[a6]at h1 ⊢;exact h1
   · rw[World.putObj_size]at C ⊢;omega
  intro e a3 o a1;cases e with
  | normal=>obtain⟨C,t,a0⟩:=a1;obtain⟨T,U,f3,f4,f5,f6⟩:=a4 none o C t;exact⟨_,_,T,U,f3,f4,.inl ⟨rfl,hI.step a0 f6,f5⟩⟩
  | ret=>obtain⟨C,t,a0⟩:=a1;obtain⟨T,U,f3,f4,f5,f6⟩:=a4 (some .ret) o C t;exact⟨_,_,T,U,f3,f4,.inr ⟨rfl,.ret,(hIx _).step (s:=()) a0 f6,f5⟩⟩
  | exit id=>obtain⟨C,t,a0⟩:=a1;obtain⟨T,U,f3,f4,f5,f6⟩:=a4 (some (.exit id)) o C t;exact⟨_,_,T,U,f3,f4,.inr ⟨rfl,.exit id,(hIx _).step (s:=()) a0 f6,f5⟩⟩
  | goto a8=>obtain⟨C,t,a0⟩:=a1;obtain⟨T,U,f3,f4,f5,f6⟩:=a4 (some (.goto a8)) o C t;exact⟨_,_,T,U,f3,f4,.inr ⟨rfl,.goto a8,(hIx _).step (s:=()) a0 f6,f5⟩⟩
  | panic ch=>exact a1.elim
  | outgrown=>exact a1.elim
 | ret=>exact h.elim
 | exit id=>exact h.elim
 | goto a8=>exact h.elim
 | panic ch=>exact h.elim
 | outgrown=>exact h.elim
def QC{g:Operand}{assign body:Code}{a:Act}{gf:Nat}{lb:Array Value}(hg:a.eval g=.func (.func gf) #[] lb)
  (eg:∀args w,(callFunc gf args).run P w=.ok (.enter gf args) w) {a4:α->Array Value} {xs:List α} {R:Nat->Prop} (ag:Seq P gf lb a4 xs R w) (a5:∀b,R b->b<w.heap.size) (af:∀x,(a4 x).size=ps.size)
  (I:List α->(Nat->Prop)->World->Prop) (Ix:Code->(Nat->Prop)->World->Prop) (hI:Ju w.heap.size I) (hIx:∀c,Ju w.heap.size (fun(_:Unit)=>Ix c)) (h0:I [] R w)
  (hround:Qs P a4 ps assign body a.tmps xs R w.heap.size I Ix)
  (hdone:∀(D:Nat) (A:Nat->Prop) (W:World),w.heap.size<=D->A D->(∀b,R b->A b)->(∀b,A b->b<W.heap.size)->I xs A W->W.heap[D]?=some (.deferred (some []))->Q .normal {a with defers:={target:=.collected D,args:=#[]}::a.defers} W)
  (hstop:∀(D:Nat) (c:Code) (A:Nat->Prop) (W:World),w.heap.size<=D->A D->(∀b,R b->A b)->(∀b,A b->b<W.heap.size)->Ix c A W->W.heap[D]?=some (.deferred (some []))->c.wpIn Fence.wide 0 P Q {a with defers:={target:=.collected D,args:=#[]}::a.defers} W) :
  (Code.rangeFunc g ps assign body).wpIn Fence.wide 0 P Q a w:=by
 refine wpIn_rangeFunc ?_;intro fn al;rw[show Fence.wide.round=none from rfl];obtain⟨J,a0⟩:∃J:LoopState->Option Code->Loop,J=fun st pe=>{state:=st,pending:=pe,fn,tmps:=a.tmps,params:=ps,assign,body,defers:=w.heap.size}:=⟨_,rfl⟩
 obtain⟨o,a1⟩:∃o,(w.alloc (.deferred (some []))).alloc (.loop (J .ready none))=o:=⟨_,rfl⟩
 have ad:o.heap[w.heap.size+1]?=some (.loop (J .ready none)):=by rw[<-a1];have:=World.alloc_heap_new (w.alloc (.deferred (some []))) (.loop (J .ready none));rwa [World.size_alloc]at this
 have ab:o.heap[w.heap.size]?=some (.deferred (some [])):=by rw[<-a1];exact(Below.heap_alloc _ _ _ (by simp)).trans (World.alloc_heap_new w _)
 have a6:∀X,Aj X w o:=fun X=>by rw[<-a1];exact((Aj.refl X w).alloc _).alloc _
 have an:o.heap.size=w.heap.size+2:=by rw[<-a1];simp
 refine⟨w.heap.size+1,[{target:=.collected w.heap.size,args:=#[]}],o,{target:=.fn (.func gf) lb,args:=#[.func (.yield (w.heap.size+1)) #[] #[]]},o,gf,
  #[.func (.yield (w.heap.size+1)) #[] #[]]++lb,o,?_,?_,?_,?_,(fun h=>(by cases h)),?_⟩
 ·rw[<-a1,a0];exact run_enterLoop_outer _ _ _ _ _
 ·simp only[resolve,hg]
  simp[go_sem]
 ·intro f' ak;trivial
 ·simp[invoke,go_sem,eg]
 ·have hX:∀b,(b=w.heap.size\/b=w.heap.size+1)->w.heap.size<=b/\b<o.heap.size:=fun b i=>by omega
  refine(ag (w.heap.size+1)
   (fun pre A W=>I pre (fun b=>A b\/(b=w.heap.size\/b=w.heap.size+1)) W/\W.heap[w.heap.size+1]?=some (.loop (J .ready none))/\W.heap[w.heap.size]?=some (.deferred (some []))/\¬A w.heap.size/\¬A (w.heap.size+1))
   (fun _ A W=>∃c,Ix c (fun b=>A b\/(b=w.heap.size\/b=w.heap.size+1)) W/\W.heap[w.heap.size+1]?=some (.loop (J .done (some c)))/\W.heap[w.heap.size]?=some (.deferred (some []))/\¬A w.heap.size/\¬A (w.heap.size+1))
   o (a6 _) ?_ ?_ ?_ ?_).mono ?_
  ·rintro s A A' a2 U' ⟨C,l,j,t,p⟩ U T
   have u1:=(aG.1 l).1;have u2:=(aG.1 j).1;refine⟨hI s _ _ a2 U' C (U.mono fun ai hi=>⟨by omega,.inl hi.2⟩) (fun b i=>?_),(U.block _ u1 (fun h=>p h.2)).trans l,(U.block _ u2 (fun h=>t h.2)).trans j,fun h=>?_,fun h=>?_⟩
   ·rcases i with i|i
    ·exact(T b i).elim (fun h=>.inl (.inl h)) .inr
    ·exact .inl (.inr i)
   ·exact(T _ h).elim t (by omega)
   ·exact(T _ h).elim p (by omega)
  ·rintro s A A' a2 U' ⟨c,C,l,j,t,p⟩ U T
   have u1:=(aG.1 l).1;have u2:=(aG.1 j).1;refine⟨c,hIx c s _ _ a2 U' C (U.mono fun ai hi=>⟨by omega,.inl hi.2⟩) (fun b i=>?_),(U.block _ u1 (fun h=>p h.2)).trans l,(U.block _ u2 (fun h=>t h.2)).trans j,fun h=>?_,fun h=>?_⟩
   ·rcases i with i|i
    ·exact(T b i).elim (fun h=>.inl (.inl h)) .inr
    ·exact .inl (.inr i)
   ·exact(T _ h).elim t (by omega)
   ·exact(T _ h).elim p (by omega)
  ·rintro pre x A a2 ⟨C,l,j,t,p⟩ ae ah a3
   have u1:=(aG.1 l).1;have u2:=(aG.1 j).1;obtain⟨aa,aj,a8,a9,hy,hR⟩:=rounds (P:=P) (D:=w.heap.size) hI hIx hround af (l:=w.heap.size+1) (by omega) (X:=fun b=>b=w.heap.size\/b=w.heap.size+1) (.inr rfl) J a0 C l p ae ah a3 (fun b i=>by rcases i with rfl|rfl<;>assumption);refine⟨aa,aj,a8,a9,hy,hR.mono ?_⟩;rintro e U' ⟨g1,g2,g3,g4⟩;refine⟨g1,g2,?_⟩;rcases g4 with⟨rfl,k1,k2⟩|⟨rfl,c,k1,k2⟩
   ·exact .inl ⟨rfl,k1,k2,(g3 _ (.inl rfl) (by omega)).trans j,t,p⟩
   ·exact .inr ⟨rfl,c,k1,k2,(g3 _ (.inl rfl) (by omega)).trans j,t,p⟩
  ·refine⟨hI [] R _ w o h0 (a6 _) (fun b i=>?_),ad,ab,fun h=>?_,fun h=>?_⟩
   ·rcases i with i|i
    ·exact .inl i
    ·exact .inr (hX b i).1
   ·have:=a5 _ h;omega
   ·have:=a5 _ h;omega
  ·rintro e W2 ⟨⟨v,rfl⟩,A,a7,a3,(⟨C,l,j,t,p⟩|⟨c,C,l,j,t,p⟩)⟩
   ·refine⟨none,_,by have:=run_endLoop (P:=P) l (by rw[a0];simp);rw[a0]at this;exact this,hdone _ _ _ (AF _) (.inr (.inl rfl)) (fun b i=>.inl (a7 b i)) (fun b i=>by have u1:=(aG.1 l).1;have u2:=(aG.1 j).1;rw[World.putObj_size];exact i.elim (a3 b) (fun i=>by rcases i with rfl|rfl<;>assumption)) (hI.step C ((Aj.refl _ _).put (.inr ⟨by omega,.inr (.inr rfl)⟩) _)) ((World.putObj_heap_other (by omega)).trans j)⟩
   ·refine⟨some c,_,by have:=run_endLoop (P:=P) l (by rw[a0];simp);rw[a0]at this;exact this,hstop _ c _ _ (AF _) (.inr (.inl rfl)) (fun b i=>.inl (a7 b i)) (fun b i=>by have u1:=(aG.1 l).1;have u2:=(aG.1 j).1;rw[World.putObj_size];exact i.elim (a3 b) (fun i=>by rcases i with rfl|rfl<;>assumption)) ((hIx c).step (s:=()) C ((Aj.refl _ _).put (.inr ⟨by omega,.inr (.inr rfl)⟩) _)) ((World.putObj_heap_other (by omega)).trans j)⟩
end
section
variable {P:Program} {ops:Array Oper} {Q:Exit->Act->World->Prop} {md:Region.Mode} {S:World->Prop} {Z:Nat->Bool}
def DO(P:Program)(md:Region.Mode)(ops:Array Oper)(Q:Exit->Act->World->Prop)(S:World->Prop)(Z:Nat->Bool):Nat->Array Bool->Act->World->Prop
 | 0,listed,a,w=>Region.ready md ops listed=[]/\Q .normal a w
 | f+1,listed,a,w=>(Region.ready md ops listed=[]->Q .normal a w)/\∀i∈Region.ready md ops listed,wpOp P ops Q i (fun l j=>(Z i=false->S w->S j)/\DO P md ops Q S Z f (listed.setIfInBounds i true) l j) a w
theorem P7:∀(f:Nat) (listed:Array Bool) (a:Act) (w:World),DO P md ops Q S Z f listed a w->wpAny P md ops Q f listed a w
 | 0,_,_,_,h=>h
 | f+1,_,_,_,h=>⟨h.1,fun i o=>wpOp_mono (fun j p l=>P7 f _ j p l.2) (h.2 i o)⟩
def YU{id:Nat}(Z:Nat->Bool)(S:World->Prop)(i:P.follows .mixedOrders=true)(h:DO P .any ops Q S Z ops.size (Array.replicate ops.size false) a w.drew):(Code.region id ops true).wp P Q a w:=
 wp_region_any i (P7 _ _ _ _ h)
def iE{T:Oper}(hi:ops[i]?=some T)(a7:∀(j:Nat) (o:Oper) cs b,ops[j]?=some o->o.op ≠ .select cs b)(hQ:∀c a w,Q (.panic c) (a.put T.dst v) w->Q (.panic c) a w)(hz:((List.range ops.size).all fun z=>!Z z||Region.waitsFor md ops z i)=true) :
  ∀(f:Nat) (listed:Array Bool) (a:Act) (w:World),(∀j l,ops[j]?=some l->j≠i->listed.getD j true=false->(∀e∈l.after,Region.binds md e=true->e.on≠i)->T.apart ops l=true) ->
   i∈Region.ready md ops listed->YieldsIf P ops S T v a->S w->DO P md ops Q S Z f (listed.setIfInBounds i true) (a.put T.dst v) w->DO P md ops Q S Z (f+1) listed a w:=by
 have ah:∀(listed:Array Bool) (j:Nat) (l:Oper),i∈Region.ready md ops listed->ops[j]?=some l->j∈Region.ready md ops listed->∀e∈l.after,Region.binds md e=true->e.on≠i:=fun listed j l p I J e he hb heq=>by
  obtain⟨_,ai,a5,a8⟩:=mem_ready.1 J;rw[I]at a5;cases a5
  have t:=a8 e he hb;rw[heq,getD_both (mem_ready.1 p).1]at t;cases t
 intro f;induction f with
 | zero=>
  intro listed a w _ p hy R H;refine⟨fun h=>(by rw[h]at p;cases p),fun j J=>?_⟩;by_cases C:j=i
  ·subst C;exact hy.wpOp hi R ⟨fun _ _=>R,H⟩
  ·have U:=ready_mono J C
   rw[H.1]at U;cases U
 | succ f ih=>
  intro listed a w a0 p hy R H;refine⟨fun h=>(by rw[h]at p;cases p),fun j J=>?_⟩;by_cases C:j=i
  ·subst C;exact hy.wpOp hi R ⟨fun _ _=>R,H⟩
  ·have t:=H.2 j (ready_mono J C)
   obtain⟨a2,l,I,_⟩:=mem_ready.1 J;have a4:=ah listed j l p I J;have ad:Z j=false:=by
    cases hZ:Z j with
    | false=>rfl
    | true=>
     have ab:j<ops.size:=(aG.1 I).1;have t:=List.all_eq_true.1 hz j (List.mem_range.2 ab);rw[hZ]at t;simp only[Bool.not_true,Bool.false_or]at t;obtain⟨oz,a6,ez,aa,a9,ag⟩:=Region.waitsFor_spec t;rw[I]at a6;cases a6
     exact absurd ag (a4 ez aa a9)
   have U:=wpOp_putIf I (a0 j l I C a2 a4) (fun cs b=>a7 i T cs b hi) (fun cs b=>a7 j l cs b I) hQ hy t;refine wpOp_mono (fun a' w' h3=>⟨h3.2.1,ih (listed.setIfInBounds j true) a' w' (fun k ok hk ae a3 af=>a0 k ok hk ae ?_ af) (ready_mono p (Ne.symm C)) h3.1 (h3.2.1 ad R) ?_⟩) U
   ·by_cases a1:j=k
    ·subst a1;exact a2
    ·rw[getD_set_ne true a1]at a3;exact a3
   ·rw[Array.setIfInBounds_comm _ _ C]
    exact h3.2.2
def LL(i:Nat){j:Oper}(p:ops[i]?=some j)(T:Region.noSelect ops=true)(J:Region.free md ops listed i=true)(R:(Region.ready md ops listed).contains i=true)(hz:((List.range ops.size).all fun z=>!Z z||Region.waitsFor md ops z i)=true)
  (t:∀c a w,Q (.panic c) (a.put j.dst v) w->Q (.panic c) a w) (U:YieldsIf P ops S j v {tmps:=l.toArray,defers:=o}) (C:S w) (I:j.dst=some d)
  (h:DO P md ops Q S Z f (listed.setIfInBounds i true) {tmps:=(l.set d v).toArray,defers:=o} w):DO P md ops Q S Z (f+1) listed {tmps:=l.toArray,defers:=o} w:=by
 refine iE p (Region.noSelect_spec T) t hz f listed _ w (Region.free_spec p J) (by simpa using R) U C ?_;rw[I];simpa [Act.put] using h
def Wa(hi:ops[i]?=some J)(a5:∀(j:Nat) (o:Oper) cs b,ops[j]?=some o->o.op ≠ .select cs b)(hQ:∀c a w,Q (.panic c) (a.put J.dst v) w->Q (.panic c) a w) :
  ∀(f:Nat) (listed:Array Bool) (a:Act) (w:World),(∀j l,ops[j]?=some l->j≠i->listed.getD j true=false->(∀e∈l.after,Region.binds md e=true->e.on≠i)->J.apart ops l=true) ->
   i∈Region.ready md ops listed->YieldsIf P ops (fun _=>True) J v a->DO P md ops Q S Z f (listed.setIfInBounds i true) (a.put J.dst v) w->DO P md ops Q S Z (f+1) listed a w:=by
 have aa:∀(listed:Array Bool) (j:Nat) (l:Oper),i∈Region.ready md ops listed->ops[j]?=some l->j∈Region.ready md ops listed->∀e∈l.after,Region.binds md e=true->e.on≠i:=fun listed j l p I C e he hb heq=>by
  obtain⟨_,ab,a4,a6⟩:=mem_ready.1 C;rw[I]at a4;cases a4
  have R:=a6 e he hb;rw[heq,getD_both (mem_ready.1 p).1]at R;cases R
 intro f;induction f with
 | zero=>
  intro listed a w _ p U H;refine⟨fun h=>(by rw[h]at p;cases p),fun j C=>?_⟩;by_cases t:j=i
  ·subst t;exact U.wpOp hi trivial ⟨fun _ h=>h,H⟩
  ·have T:=ready_mono C t
   rw[H.1]at T;cases T
 | succ f ih=>
  intro listed a w a0 p U H;refine⟨fun h=>(by rw[h]at p;cases p),fun j C=>?_⟩;by_cases t:j=i
  ·subst t;exact U.wpOp hi trivial ⟨fun _ h=>h,H⟩
  ·have R:=H.2 j (ready_mono C t)
   obtain⟨a2,l,I,_⟩:=mem_ready.1 C;have a9:=aa listed j l p I C;have T:=wpOp_putIf I (a0 j l I t a2 a9) (fun cs b=>a5 i J cs b hi) (fun cs b=>a5 j l cs b I) hQ U R;refine wpOp_mono (fun a' w' h3=>⟨h3.2.1,ih (listed.setIfInBounds j true) a' w' (fun k ok hk a7 a3 a8=>a0 k ok hk a7 ?_ a8) (ready_mono p (Ne.symm t)) h3.1 ?_⟩) T
   ·by_cases a1:j=k
    ·subst a1;exact a2
    ·rw[getD_set_ne true a1]at a3;exact a3
   ·rw[Array.setIfInBounds_comm _ _ t]
    exact h3.2.2
def M6(i:Nat){j:Oper}(p:ops[i]?=some j)(R:Region.noSelect ops=true)(I:Region.free md ops listed i=true)(J:(Region.ready md ops listed).contains i=true)
  (t:∀c a w,Q (.panic c) (a.put j.dst v) w->Q (.panic c) a w) (T:YieldsIf P ops (fun _=>True) j v {tmps:=l.toArray,defers:=o}) (C:j.dst=some d)
  (h:DO P md ops Q S Z f (listed.setIfInBounds i true) {tmps:=(l.set d v).toArray,defers:=o} w):DO P md ops Q S Z (f+1) listed {tmps:=l.toArray,defers:=o} w:=by
 refine Wa p (Region.noSelect_spec R) t f listed _ w (Region.free_spec p I) (by simpa using J) T ?_;rw[C];simpa [Act.put] using h
def Ih(i:Nat){o:Oper}(p:Region.ready md ops listed=[i])(J:ops[i]?=some o)(I:o.guard=none)
  (h:∀K:Act->World->Prop,Shut (∀a w',(Z i=false->S w->S w')->DO P md ops Q S Z f (listed.setIfInBounds i true) a w'->K a w')->o.wp P a w K Q):DO P md ops Q S Z (f+1) listed a w:=by
 refine⟨fun h0=>(by rw[p]at h0;cases h0),fun j l=>?_⟩;rw[p,mS]at l;subst l;unfold wpOp;rw[J];simp only;rw[if_pos (by unfold Region.wanted;rw[I])];exact .inl (h _ fun a w t C=>⟨t,C⟩)
def J0(i:Nat){o:Oper}(T:Region.ready md ops listed=[i])(R:ops[i]?=some o)(J:o.guard=none)(I:o.dst=some d)
  (h:∀K:Act->World->Prop,Shut (∀v w',(Z i=false->S w->S w')->DO P md ops Q S Z f (listed.setIfInBounds i true) {tmps:=(l.set d v).toArray,defers:=j} w'->K (({tmps:=l.toArray,defers:=j}:Act).put o.dst v) w')->o.wp P {tmps:=l.toArray,defers:=j} w K Q):DO P md ops Q S Z (f+1) listed {tmps:=l.toArray,defers:=j} w:=by
 refine Ih i T R J fun K C=>h K fun v w p t=>?_
 refine C _ _ p ?_;rw[I];simpa [Act.put] using t
def Qz(i j:Nat)(p:Region.ready md ops listed=[i,j])(t:wpOp P ops Q i (fun o w'=>(Z i=false->S w->S w')/\DO P md ops Q S Z f (listed.setIfInBounds i true) o w') a w)
  (C:wpOp P ops Q j (fun o w'=>(Z j=false->S w->S w')/\DO P md ops Q S Z f (listed.setIfInBounds j true) o w') a w):DO P md ops Q S Z (f+1) listed a w:=by
 refine⟨fun h0=>(by rw[p]at h0;cases h0),fun k l=>?_⟩;rw[p]at l;rcases List.mem_cons.1 l with rfl|l
 ·exact t
 ·rw[mS]at l
  subst l;exact C
def Na(i:Nat){o:Oper}(R:ops[i]?=some o)(J:o.guard=none)(I:o.dst=some d)
  (h:∀K:Act->World->Prop,Shut (∀v w',(Z i=false->S w->S w')->DO P md ops Q S Z f (listed.setIfInBounds i true) {tmps:=(l.set d v).toArray,defers:=j} w'->K (({tmps:=l.toArray,defers:=j}:Act).put o.dst v) w')->o.wp P {tmps:=l.toArray,defers:=j} w K Q) :
  wpOp P ops Q i (fun p w'=>(Z i=false->S w->S w')/\DO P md ops Q S Z f (listed.setIfInBounds i true) p w') {tmps:=l.toArray,defers:=j} w:=by
 unfold wpOp;rw[R];simp only;rw[if_pos (by unfold Region.wanted;rw[J])];refine .inl (h _ fun v w' t C=>?_);rw[I];exact⟨t,by simpa [Act.put] using C⟩
theorem OS(i:Region.ready md ops listed=[])(h:Q .normal a w):∀f,DO P md ops Q S Z f listed a w
 | 0=>⟨i,h⟩
 | _+1=>⟨fun _=>h,by rw[i];simp⟩
end
section
set_option maxRecDepth 1000000
def Hj:List UInt8:=[37,116,111,107,101,110,32,87,79,82,68,32,65,83,83,73,71,78,32,78,65,77,69,32,78,85,77,32,78,69,87,76,73,78,69,32,39,38,38,39,32,39,124,124,39,32,39,59,59,39,32,39,59,39,32,39,38,39,32,39,124,39,32,39,40,39,32,39,41,39,10,37,116,111,107,101,110,32,39,60,39,32,39,62,39,32,39,62,62,39,32,39,60,60,39,32,39,60,60,45,39,32,39,60,38,39,32,39,62,38,39,32,39,60,62,39,32,39,62,124,39,10,37,116,111,107,101,110,32,73,102,32,84,104,101,110,32,69,108,115,101,32,69,108,105,102,32,70,105,32,68,111,32,68,111,110,101,32,67,97,115,101,32,69,115,97,99,32,87,104,105,108,101,32,85,110,116,105,108,32,70,111,114,32,76,98,114,97,99,101,32,82,98,114,97,99,101,32,66,97,110,103,32,73,110,10,37,115,116,97,114,116,32,117,110,105,116,10,37,37,10,117,110,105,116,32,58,32,99,111,109,112,108,101,116,101,32,78,69,87,76,73,78,69,32,59,10,99,111,109,112,108,101,116,101,32,58,32,108,105,115,116,32,124,32,108,105,115,116,32,115,101,112,111,112,32,59,10,108,105,115,116,32,58,32,108,105,115,116,32,115,101,112,111,112,32,97,110,100,111,114,32,124,32,97,110,100,111,114,32,59,10,97,110,100,111,114,32,58,32,112,105,112,101,108,105,110,101,32,124,32,97,110,100,111,114,32,39,38,38,39,32,108,105,110,101,98,114,101,97,107,32,112,105,112,101,108,105,110,101,32,124,32,97,110,100,111,114,32,39,124,124,39,32,108,105,110,101,98,114,101,97,107,32,112,105,112,101,108,105,110,101,32,59,10,112,105,112,101,108,105,110,101,32,58,32,112,105,112,101,115,32,124,32,66,97,110,103,32,112,105,112,101,115,32,59,10,112,105,112,101,115,32,58,32,99,111,109,109,97,110,100,32,124,32,112,105,112,101,115,32,39,124,39,32,108,105,110,101,98,114,101,97,107,32,99,111,109,109,97,110,100,32,59,10,99,111,109,109,97,110,100,32,58,32,115,105,109,112,108,101,32,124,32,99,111,109,112,111,117,110,100,32,124,32,99,111,109,112,111,117,110,100,32,114,101,100,105,114,115,32,124,32,102,117,110,99,116,105,111,110,32,59,10,99,111,109,112,111,117,110,100,32,58,32,98,114,97,99,101,32,124,32,115,117,98,115,104,101,108,108,32,124,32,102,111,114,99,32,124,32,99,97,115,101,99,32,124,32,105,102,99,32,124,32,119,104,105,108,101,99,32,124,32,117,110,116,105,108,99,32,59,10,115,117,98,115,104,101,108,108,32,58,32,39,40,39,32,99,108,105,115,116,32,39,41,39,32,59,10,99,108,105,115,116,32,58,32,108,105,110,101,98,114,101,97,107,32,116,101,114,109,32,124,32,108,105,110,101,98,114,101,97,107,32,116,101,114,109,32,115,101,112,32,59,10,116,101,114,109,32,58,32,116,101,114,109,32,115,101,112,32,97,110,100,111,114,32,124,32,97,110,100,111,114,32,59,10,102,111,114,99,32,58,32,70,111,114,32,78,65,77,69,32,100,111,103,114,111,117,112,32,124,32,70,111,114,32,78,65,77,69,32,115,101,113,115,101,112,32,100,111,103,114,111,117,112,10,32,124,32,70,111,114,32,78,65,77,69,32,108,105,110,101,98,114,101,97,107,32,73,110,32,115,101,113,115,101,112,32,100,111,103,114,111,117,112,32,124,32,70,111,114,32,78,65,77,69,32,108,105,110,101,98,114,101,97,107,32,73,110,32,119,111,114,100,115,32,115,101,113,115,101,112,32,100,111,103,114,111,117,112,32,59,10,119,111,114,100,115,32,58,32,119,111,114,100,115,32,87,79,82,68,32,124,32,87,79,82,68,32,59,10,99,97,115,101,99,32,58,32,67,97,115,101,32,87,79,82,68,32,108,105,110,101,98,114,101,97,107,32,73,110,32,108,105,110,101,98,114,101,97,107,32,99,97,115,101,108,105,115,116,32,69,115,97,99,10,32,124,32,67,97,115,101,32,87,79,82,68,32,108,105,110,101,98,114,101,97,107,32,73,110,32,108,105,110,101,98,114,101,97,107,32,99,97,115,101,108,105,115,116,110,115,32,69,115,97,99,32,124,32,67,97,115,101,32,87,79,82,68,32,108,105,110,101,98,114,101,97,107,32,73,110,32,108,105,110,101,98,114,101,97,107,32,69,115,97,99,32,59,10,99,97,115,101,108,105,115,116,110,115,32,58,32,99,97,115,101,108,105,115,116,32,99,97,115,101,105,116,101,109,110,115,32,124,32,99,97,115,101,105,116,101,109,110,115,32,59,10,99,97,115,101,108,105,115,116,32,58,32,99,97,115,101,108,105,115,116,32,99,97,115,101,105,116,101,109,32,124,32,99,97,115,101,105,116,101,109,32,59,10,99,97,115,101,105,116,101,109,110,115,32,58,32,112,97,116,116,101,114,110,32,39,41,39,32,108,105,110,101,98,114,101,97,107,32,124,32,112,97,116,116,101,114,110,32,39,41,39,32,99,108,105,115,116,10,32,124,32,39,40,39,32,112,97,116,116,101,114,110,32,39,41,39,32,108,105,110,101,98,114,101,97,107,32,124,32,39,40,39,32,112,97,116,116,101,114,110,32,39,41,39,32,99,108,105,115,116,32,59,10,99,97,115,101,105,116,101,109,32,58,32,112,97,116,116,101,114,110,32,39,41,39,32,108,105,110,101,98,114,101,97,107,32,39,59,59,39,32,108,105,110,101,98,114,101,97,107,32,124,32,112,97,116,116,101,114,110,32,39,41,39,32,99,108,105,115,116,32,39,59,59,39,32,108,105,110,101,98,114,101,97,107,10,32,124,32,39,40,39,32,112,97,116,116,101,114,110,32,39,41,39,32,108,105,110,101,98,114,101,97,107,32,39,59,59,39,32,108,105,110,101,98,114,101,97,107,32,124,32,39,40,39,32,112,97,116,116,101,114,110,32,39,41,39,32,99,108,105,115,116,32,39,59,59,39,32,108,105,110,101,98,114,101,97,107,32,59,10,112,97,116,116,101,114,110,32,58,32,87,79,82,68,32,124,32,112,97,116,116,101,114,110,32,39,124,39,32,87,79,82,68,32,59,10,105,102,99,32,58,32,73,102,32,99,108,105,115,116,32,84,104,101,110,32,99,108,105,115,116,32,101,108,115,101,112,97,114,116,32,70,105,32,124,32,73,102,32,99,108,105,115,116,32,84,104,101,110,32,99,108,105,115,116,32,70,105,32,59,10,101,108,115,101,112,97,114,116,32,58,32,69,108,105,102,32,99,108,105,115,116,32,84,104,101,110,32,99,108,105,115,116,32,124,32,69,108,105,102,32,99,108,105,115,116,32,84,104,101,110,32,99,108,105,115,116,32,101,108,115,101,112,97,114,116,32,124,32,69,108,115,101,32,99,108,105,115,116,32,59,10,119,104,105,108,101,99,32,58,32,87,104,105,108,101,32,99,108,105,115,116,32,100,111,103,114,111,117,112,32,59,10,117,110,116,105,108,99,32,58,32,85,110,116,105,108,32,99,108,105,115,116,32,100,111,103,114,111,117,112,32,59,10,102,117,110,99,116,105,111,110,32,58,32,78,65,77,69,32,39,40,39,32,39,41,39,32,108,105,110,101,98,114,101,97,107,32,102,117,110,98,111,100,121,32,59,10,102,117,110,98,111,100,121,32,58,32,99,111,109,112,111,117,110,100,32,124,32,99,111,109,112,111,117,110,100,32,114,101,100,105,114,115,32,59,10,98,114,97,99,101,32,58,32,76,98,114,97,99,101,32,99,108,105,115,116,32,82,98,114,97,99,101,32,59,10,100,111,103,114,111,117,112,32,58,32,68,111,32,99,108,105,115,116,32,68,111,110,101,32,59,10,115,105,109,112,108,101,32,58,32,112,114,101,102,105,120,32,99,109,100,119,111,114,100,32,115,117,102,102,105,120,32,124,32,112,114,101,102,105,120,32,99,109,100,119,111,114,100,32,124,32,112,114,101,102,105,120,32,124,32,99,109,100,110,97,109,101,32,115,117,102,102,105,120,32,124,32,99,109,100,110,97,109,101,32,59,10,99,109,100,110,97,109,101,32,58,32,87,79,82,68,32,124,32,78,65,77,69,32,59,10,99,109,100,119,111,114,100,32,58,32,87,79,82,68,32,59,10,112,114,101,102,105,120,32,58,32,114,101,100,105,114,32,124,32,112,114,101,102,105,120,32,114,101,100,105,114,32,124,32,65,83,83,73,71,78,32,124,32,112,114,101,102,105,120,32,65,83,83,73,71,78,32,59,10,115,117,102,102,105,120,32,58,32,114,101,100,105,114,32,124,32,115,117,102,102,105,120,32,114,101,100,105,114,32,124,32,87,79,82,68,32,124,32,115,117,102,102,105,120,32,87,79,82,68,32,59,10,114,101,100,105,114,115,32,58,32,114,101,100,105,114,32,124,32,114,101,100,105,114,115,32,114,101,100,105,114,32,59,10,114,101,100,105,114,32,58,32,105,111,102,105,108,101,32,124,32,78,85,77,32,105,111,102,105,108,101,32,124,32,105,111,104,101,114,101,32,124,32,78,85,77,32,105,111,104,101,114,101,32,59,10,105,111,102,105,108,101,32,58,32,39,60,39,32,87,79,82,68,32,124,32,39,60,38,39,32,87,79,82,68,32,124,32,39,62,39,32,87,79,82,68,32,124,32,39,62,38,39,32,87,79,82,68,32,124,32,39,62,62,39,32,87,79,82,68,32,124,32,39,60,62,39,32,87,79,82,68,32,124,32,39,62,124,39,32,87,79,82,68,32,59,10,105,111,104,101,114,101,32,58,32,39,60,60,39,32,87,79,82,68,32,124,32,39,60,60,45,39,32,87,79,82,68,32,59,10,110,101,119,108,105,110,101,115,32,58,32,78,69,87,76,73,78,69,32,124,32,110,101,119,108,105,110,101,115,32,78,69,87,76,73,78,69,32,59,10,108,105,110,101,98,114,101,97,107,32,58,32,110,101,119,108,105,110,101,115,32,124,32,59,10,115,101,112,111,112,32,58,32,39,38,39,32,124,32,39,59,39,32,59,10,115,101,112,32,58,32,115,101,112,111,112,32,108,105,110,101,98,114,101,97,107,32,124,32,110,101,119,108,105,110,101,115,32,59,10,115,101,113,115,101,112,32,58,32,39,59,39,32,108,105,110,101,98,114,101,97,107,32,124,32,110,101,119,108,105,110,101,115,32,59,10]
def Pg(g:PG):Bool:=g.T.length==38&&(g.T++g.N)[17]?==some [39,60,60,45,39]&&(g.T++g.N)[g.s-1]?==some [117,110,105,116]&&decide (1<=g.s)&&decide (g.s<=g.T.length+g.N.length)
def WM:(match Fk Hj with | .ok g=>Pg g | .error _=>false)=true:=by decide +kernel
theorem gT:∃g,Fk Hj=.ok g/\Pg g=true:=by
 have h:=WM;cases i:Fk Hj with
 | error e=>rw[i]at h;cases h
 | ok g=>rw[i]at h;exact⟨g,rfl,h⟩
end
def Dn:List (List UInt8):=[[],[38,38],[124,124],[59,59],[59],[38],[124],[40],[41],[60],[62],[62,62],[60,60],[60,60,45],[60,38],[62,38],[60,62],[62,124]]
def Ch:List (List UInt8):=[[105,102],[116,104,101,110],[101,108,115,101],[101,108,105,102],[102,105],[100,111],[100,111,110,101],[99,97,115,101],[101,115,97,99],[119,104,105,108,101],[117,110,116,105,108],[102,111,114],[123],[125],[33],[105,110]]
def bs(l:List UInt8):ByteArray:=⟨l.toArray⟩
def Ei(w:World):Prop:=(∀k (h:k<Dn.length),w.cell? (1,k)=some (.string (bs Dn[k])))/\(∀k (h:k<Ch.length),w.cell? (0,k)=some (.string (bs Ch[k])))
def Ei.later(h:Ei w)(j:Below w w w'):Ei w':=
 ⟨fun k i=>(j.cell (p:=⟨1,k,none⟩) (World.block_lt_of_cell? w _ (h.1 k i))).trans (h.1 k i),fun k i=>(j.cell (p:=⟨0,k,none⟩) (World.block_lt_of_cell? w _ (h.2 k i))).trans (h.2 k i)⟩
def IB(op:Int):ByteArray:=if op<0 then bs [] else bs (Dn.getD op.toNat [])
def gZ(op:Int)(h:Ei w):() 44 #[op] w fun e w'=>e=.returned (.string (IB op))/\w=w':=by
 unfold IB;by_cases h0:op<0
 ·rw[if_pos h0]
  go_enter Tryz.func44,Tryz.ntmps44
  go_wp2;go_ret;exact⟨rfl,rfl⟩
 ·rw[if_neg h0]
  obtain⟨k,rfl⟩:∃k:Nat,op=k:=⟨op.toNat,by omega⟩
  by_cases o:18<=k
  ·have l:(18:Int)<=(k:Int):=by omega
   have i:Dn.getD (k:Int).toNat []=[]:=by rw[dG,nG (by simp[Dn];omega)];rfl
   rw[i];go_enter Tryz.func44,Tryz.ntmps44
   go_wp2;go_ret;exact⟨rfl,rfl⟩
  ·have l:¬(18:Int)<=(k:Int):=by omega
   have C:(k:Int)<18:=by omega
   have j:k<Dn.length:=by show k<18;omega
   have p:=h.1 k j;have i:Dn.getD (k:Int).toNat []=Dn[k]:=by rw[dG,Int.toNat_natCast,eG j];rfl
   rw[i];generalize bs Dn[k]=t at *;go_enter Tryz.func44,Tryz.ntmps44
   go_wp2;go_ret;exact⟨rfl,rfl⟩
def FJ(op:Int):Int:=if 1<=op/\op<=17 then 5+op else 0
def QK(op:Int):(IB op).toList.isEmpty=!decide (1<=op/\op<=17):=by
 rw[Lib.toList_data];unfold IB;by_cases h0:op<0
 ·rw[if_pos h0,decide_eq_false (by omega)];rfl
 ·rw[if_neg h0]
  obtain⟨k,rfl⟩:∃k:Nat,op=k:=⟨op.toNat,by omega⟩
  by_cases i:18<=k
  ·rw[dG,nG (by simp[Dn];omega),decide_eq_false (by omega)]
   rfl
  ·have this:(List.range 18).all (fun j:Nat=>(bs (Dn.getD (j:Int).toNat [])).data.toList.isEmpty==!decide (1<=(j:Int)/\(j:Int)<=17))=true:=by decide +kernel
   exact beq_iff_eq.1 (List.all_eq_true.1 this k (List.mem_range.2 (by omega)))
def NL(op:Int)(h:Ei w):() 25 #[op] w fun e w'=>e=.returned (.int .i64 (FJ op))/\w=w':=by
 have j:=Hd (gZ op h);have l:=QK op;unfold FJ;generalize IB op=t at *;by_cases i:1<=op/\op<=17
 ·rw[if_pos i]
  rw[decide_eq_true i]at l;obtain⟨a,b⟩:=i;go_enter Tryz.func25,Tryz.ntmps25
  go_wp2_with (go_at_call 44;refine j.mono ?_;rintro e w' ⟨rfl,rfl⟩)
  go_ret;exact⟨rfl,rfl⟩
 ·rw[if_neg i]
  rw[decide_eq_false i]at l;clear i;go_enter Tryz.func25,Tryz.ntmps25
  go_wp2_with (go_at_call 44;refine j.mono ?_;rintro e w' ⟨rfl,rfl⟩)
  go_ret;exact⟨rfl,rfl⟩
def Dj(s:ByteArray):Int:=if Ch.findIdx (fun l=>(bs l).toList==s.toList)<16 then 23+(Ch.findIdx (fun l=>(bs l).toList==s.toList):Nat) else 0
def VC(s:ByteArray)(h:Ei w):() 67 #[.string s] w fun e w'=>e=.returned (.int .i64 (Dj s))/\w=w':=by
 have T:=Hd h.2;clear h;go_enter Tryz.func67,Tryz.ntmps67
 go_wp2
 go_loop [4] (fun i=>∃k:Nat,k<=16/\i=.int .i64 k/\Hid (∀j (o:j<Ch.length),j<k->((bs Ch[j]).toList==s.toList)=false)) (fun i=>16-(intOf i).toNat)
 case atStart=>exact⟨0,by omega,rfl,Hd (fun j o h=>absurd h (Nat.not_lt_zero _))⟩
 case round=>
  obtain⟨k,hk,rfl,t⟩:=hrel;by_cases R:k<16
  ·have P:k<Ch.length:=R
   have hc:=T k P;cases J:((bs Ch[k]).toList==s.toList) with
   | true=>
    have p:Hid (Dj s=23+(k:Int)):=Hd (by
     have C:Ch.findIdx (fun l=>(bs l).toList==s.toList)=k:=by rw[List.findIdx_eq P];exact⟨J,fun j o=>t j (by omega) o⟩
     unfold Dj;rw[C,if_pos R])
    generalize bs Ch[k]=a0 at *;go_wp2;go_ret;rw[p.out];exact⟨rfl,rfl⟩
   | false=>
    have p:Hid (∀j (o:j<Ch.length),j<k+1->((bs Ch[j]).toList==s.toList)=false):=Hd (fun j o h=>by
     rcases Nat.lt_or_ge j k with I|I
     ·exact t j o I
     ·obtain rfl:j=k:=by omega
      exact J)
    generalize bs Ch[k]=a0 at *;go_wp2
    go_round
    case rel=>exact⟨k+1,by omega,by go_num,p⟩
    case measure=>simp[intOf];omega
  ·have p:Hid (Dj s=0):=Hd (by
    have C:Ch.findIdx (fun l=>(bs l).toList==s.toList)=Ch.length:=by rw[List.findIdx_eq_length];intro x U;obtain⟨j,o,rfl⟩:=List.getElem_of_mem U;exact t j o (by have:Ch.length=16:=rfl;omega)
    unfold Dj;rw[C,if_neg (by decide)])
   obtain rfl:k=16:=by omega
   go_wp2;go_ret;rw[p.out];exact⟨rfl,rfl⟩
def Wq{op:Int}(h:¬(1<=op/\op<=17)):IB op=⟨#[]⟩:=by
 unfold IB;by_cases h0:op<0
 ·rw[if_pos h0];rfl
 ·rw[if_neg h0]
  by_cases i:op=0
  ·subst i;rfl
  ·rw[dG,nG (by simp[Dn];omega)]
   rfl
def RC(op:Int)(w:World):() 15 #[op] w fun e w'=>e=.returned (.string (IB op))/\w=w':=by
 by_cases i:op=1
 ·subst i
  go_enter Tryz.func15,Tryz.ntmps15
  go_wp2;go_ret;exact⟨rfl,rfl⟩
 have q1:(op==1)=false:=bN.2 i;by_cases P:op=2
 ·subst P
  go_enter Tryz.func15,Tryz.ntmps15
  go_wp2;go_ret;exact⟨rfl,rfl⟩
 have q2:(op==2)=false:=bN.2 P;by_cases R:op=3
 ·subst R
  go_enter Tryz.func15,Tryz.ntmps15
  go_wp2;go_ret;exact⟨rfl,rfl⟩
 have q3:(op==3)=false:=bN.2 R;by_cases T:op=4
 ·subst T
  go_enter Tryz.func15,Tryz.ntmps15
  go_wp2;go_ret;exact⟨rfl,rfl⟩
 have q4:(op==4)=false:=bN.2 T;by_cases U:op=5
 ·subst U
  go_enter Tryz.func15,Tryz.ntmps15
  go_wp2;go_ret;exact⟨rfl,rfl⟩
 have q5:(op==5)=false:=bN.2 U;by_cases e6:op=6
 ·subst e6
  go_enter Tryz.func15,Tryz.ntmps15
  go_wp2;go_ret;exact⟨rfl,rfl⟩
 have q6:(op==6)=false:=bN.2 e6;by_cases e7:op=7
 ·subst e7
  go_enter Tryz.func15,Tryz.ntmps15
  go_wp2;go_ret;exact⟨rfl,rfl⟩
 have q7:(op==7)=false:=bN.2 e7;by_cases e8:op=8
 ·subst e8
  go_enter Tryz.func15,Tryz.ntmps15
  go_wp2;go_ret;exact⟨rfl,rfl⟩
 have q8:(op==8)=false:=bN.2 e8;by_cases e9:op=9
 ·subst e9
  go_enter Tryz.func15,Tryz.ntmps15
  go_wp2;go_ret;exact⟨rfl,rfl⟩
 have q9:(op==9)=false:=bN.2 e9;by_cases j:op=10
 ·subst j
  go_enter Tryz.func15,Tryz.ntmps15
  go_wp2;go_ret;exact⟨rfl,rfl⟩
 have a0:(op==10)=false:=bN.2 j;by_cases l:op=11
 ·subst l
  go_enter Tryz.func15,Tryz.ntmps15
  go_wp2;go_ret;exact⟨rfl,rfl⟩
 have a1:(op==11)=false:=bN.2 l;by_cases o:op=12
 ·subst o
  go_enter Tryz.func15,Tryz.ntmps15
  go_wp2;go_ret;exact⟨rfl,rfl⟩
 have a2:(op==12)=false:=bN.2 o;by_cases p:op=13
 ·subst p
  go_enter Tryz.func15,Tryz.ntmps15
  go_wp2;go_ret;exact⟨rfl,rfl⟩
 have a3:(op==13)=false:=bN.2 p;by_cases t:op=14
 ·subst t
  go_enter Tryz.func15,Tryz.ntmps15
  go_wp2;go_ret;exact⟨rfl,rfl⟩
 have a4:(op==14)=false:=bN.2 t;by_cases C:op=15
 ·subst C
  go_enter Tryz.func15,Tryz.ntmps15
  go_wp2;go_ret;exact⟨rfl,rfl⟩
 have a5:(op==15)=false:=bN.2 C;by_cases I:op=16
 ·subst I
  go_enter Tryz.func15,Tryz.ntmps15
  go_wp2;go_ret;exact⟨rfl,rfl⟩
 have a6:(op==16)=false:=bN.2 I;by_cases J:op=17
 ·subst J
  go_enter Tryz.func15,Tryz.ntmps15
  go_wp2;go_ret;exact⟨rfl,rfl⟩
 have a7:(op==17)=false:=bN.2 J;rw[Wq (by omega)];clear i P R T U e6 e7 e8 e9 j l o p t C I J;go_enter Tryz.func15,Tryz.ntmps15
 go_wp2;go_ret;exact⟨rfl,rfl⟩
def SR(op:Int)(w:World):() 14 #[op] w fun e w'=>e=.returned (.int .i64 (FJ op))/\w=w':=by
 have j:=Hd (RC op w);have l:=QK op;unfold FJ;generalize IB op=t at *;by_cases i:1<=op/\op<=17
 ·rw[if_pos i]
  rw[decide_eq_true i]at l;obtain⟨a,b⟩:=i;go_enter Tryz.func14,Tryz.ntmps14
  go_wp2_with (go_at_call 15;refine j.mono ?_;rintro e w' ⟨rfl,rfl⟩)
  go_ret;exact⟨rfl,rfl⟩
 ·rw[if_neg i]
  rw[decide_eq_false i]at l;clear i;go_enter Tryz.func14,Tryz.ntmps14
  go_wp2_with (go_at_call 15;refine j.mono ?_;rintro e w' ⟨rfl,rfl⟩)
  go_ret;exact⟨rfl,rfl⟩
def Ke:Array Value:=(Ch.map fun l=>Value.string (bs l)).toArray
def jA(w:World):() 76 #[] w fun e w'=>e=.returned (.slice (w,0) 16 16)/\w'=w.alloc (.cells Ke 9):=by
 go_enter Tryz.func76,Tryz.ntmps76
 go_wp2;go_ret;exact⟨rfl,rfl⟩
def Vr(w:World)(k:Nat)(i:k<Ch.length):(w.alloc (.cells Ke 9)).cell? (w,k)=some (.string (bs Ch[k])):=by
 have:Ke[k]?=some (.string (bs Ch[k])):=by unfold Ke;rw[List.getElem?_toArray,pG,eG i];rfl
 simp[this]
def Tv(s:ByteArray)(w:World):() 54 #[.string s] w fun e w'=>e=.returned (.int .i64 (Dj s))/\Below w w w':=by
 have HW:=Hd (jA w);have U:=Hd (Vr w);have I:=Hd ((Below.refl _ w).alloc (AF _) (.cells Ke 9));go_enter Tryz.func54,Tryz.ntmps54
 go_wp2_with (go_at_call 76;refine HW.mono ?_;rintro e w1 ⟨rfl,rfl⟩)
 generalize w.alloc (.cells Ke 9)=W at *
 go_loop [4] (fun i=>∃k:Nat,k<=16/\i=.int .i64 k/\Hid (∀j (o:j<Ch.length),j<k->((bs Ch[j]).toList==s.toList)=false)) (fun i=>16-(intOf i).toNat)
 case atStart=>exact⟨0,by omega,rfl,Hd (fun j o h=>absurd h (Nat.not_lt_zero _))⟩
 case round=>
  obtain⟨k,hk,rfl,t⟩:=hrel;by_cases T:k<16
  ·have R:k<Ch.length:=T
   have hc:=U k R;cases P:((bs Ch[k]).toList==s.toList) with
   | true=>
    have p:Hid (Dj s=23+(k:Int)):=Hd (by
     have C:Ch.findIdx (fun l=>(bs l).toList==s.toList)=k:=by rw[List.findIdx_eq R];exact⟨P,fun j o=>t j (by omega) o⟩
     unfold Dj;rw[C,if_pos T])
    generalize bs Ch[k]=a0 at *;go_wp2;go_ret;rw[p.out];exact⟨rfl,I⟩
   | false=>
    have p:Hid (∀j (o:j<Ch.length),j<k+1->((bs Ch[j]).toList==s.toList)=false):=Hd (fun j o h=>by
     rcases Nat.lt_or_ge j k with J|J
     ·exact t j o J
     ·obtain rfl:j=k:=by omega
      exact P)
    generalize bs Ch[k]=a0 at *;go_wp2
    go_round
    case rel=>exact⟨k+1,by omega,by go_num,p⟩
    case measure=>simp[intOf];omega
  ·have p:Hid (Dj s=0):=Hd (by
    have C:Ch.findIdx (fun l=>(bs l).toList==s.toList)=Ch.length:=by rw[List.findIdx_eq_length];intro x hx;obtain⟨j,o,rfl⟩:=List.getElem_of_mem hx;exact t j o (by have:Ch.length=16:=rfl;omega)
    unfold Dj;rw[C,if_neg (by decide)])
   obtain rfl:k=16:=by omega
   go_wp2;go_ret;rw[p.out];exact⟨rfl,I⟩
section
open Go.ChangeShapes Go.WideShapes Go.ChangeAt Go.RowKit
section
variable {H:Type} {enc:TypeId×Value->H} {P:Program}
theorem Uo(T:laidOutB P=true){W J:World}(R:Below W W J)(I:Nat->Bool) :
  ∀(l:List TypeId) (C:List Value) (o:List (DataW H)) (j:List MemPlace),(∀t∈l,P.readableRec t=true/\t<P.types.size) ->
   DataW.TrodAll enc P W 0 (fun _=>true) true l C o j->(∀p∈j,p.block<W.heap.size)->(∀p∈j,I p.block=true)->DataW.TrodAll enc P J 0 I true l C o j
 | [],[],[],j,_,h,_,_=>h
 | t::l,v::C,d::o,j,hr,h,U,hs=>by
  obtain⟨p,q,h1,h2,rfl⟩:=h;have a0:=hr t (by simp);exact⟨p,q,WideElems.Trod_stays T a0.1 a0.2 h1 (fun x i=>R.same (U x (by simp[i]))) (fun x i=>hs x (by simp[i])),
   Uo T R I l C o q (fun t ht=>hr t (by simp[ht])) h2 (fun x i=>U x (by simp[i])) (fun x i=>hs x (by simp[i])),rfl⟩
 | [],[],_::_,_,_,h,_,_=>h.elim
 | [],_::_,_,_,_,h,_,_=>h.elim
 | _::_,[],_,_,_,h,_,_=>h.elim
 | _::_,_::_,[],_,_,h,_,_=>h.elim
def Tn{f:Func}{s:ChangeSpec}{apart fresh a8 a6:Bool}{o:World}{l I:List (DataW H)}{a1:List MemPlace}
  (J:DataW.Whole enc P f.params.toList s.vars apart W args.toList l I a1) (hv:s.vars=[])
  (a0:s.fn H (l++I)={results:=[.lit (.bool true)],args:=l}) {tb:TypeId} (aa:f.resultTypes=#[tb]) (ab:P.underlying tb=some .bool)
  (hl:laidOutB P=true) (hr:∀t∈f.params.toList,P.readableRec t=true/\t<P.types.size) (R:Below W W o)
  (a9:∀(j:Nat) (t:TypeId) (r:Value),f.resultTypes[j]?=some t->((Value.bool true).resultList f.resultTypes.size)[j]?=some r->Value.okWide P o .any 0 t r) :
  s.post enc P f apart fresh a8 a6 W args (.bool true) o:=by
 have T:∀p∈a1,p.block<W.heap.size:=fun p U=>J.lt p U
 have a4:∀(b:Nat) (i:Nat->Bool) (hd:Bool),DataW.TrodAll enc P o b i hd f.resultTypes.toList ((Value.bool true).resultList f.resultTypes.size) (s.fn H (l++I)).results []:=by intro b i hd;rw[a0,aa];exact trodAll_mk1 (shut_bool ab true)
 have a7:=J;obtain⟨p,q,hA,hV,rfl,hz,hn⟩:=J;rw[hv]at hV;obtain⟨rfl,rfl⟩:=trodVars_none hV;simp only[List.append_nil]at *;have a2:∀i:Nat->Bool,(∀x∈p,i x.block=true)->DataW.TrodAll enc P o 0 i true f.params.toList args.toList (s.fn H l).args p:=by intro i hs;rw[a0];exact Uo hl R i _ _ _ _ hr hA T hs
 have a5:∀i:Nat->Bool,DataW.TrodVars enc P o i s.vars (s.fn H l).vars []:=by intro i;rw[a0,hv];exact rfl
 refine⟨l,[],p,[],p,[],a7,by simpa using a4 _ _ _,by simpa using a2 _ (fun x C=>by simpa using T x C),by simpa using a5 _,World.keptBut_mono (fun x C=>⟨C,?_⟩) (R.frame (·∈p)),fun _=>?_⟩
 ·exact Or.inr (by simpa using C)
 ·have hh:=trodAll_append (a2 (fun _=>true) (fun _ _=>rfl)) (a4 0 (fun _=>true) true)
  refine⟨a9,_,(s.fn H l).vars,[]++p,⟨[]++p,[],hh,a5 _,by simp,?_,?_⟩,?_⟩
  ·intro b off U
   have a3:MemPlace.cell b off∈p:=by simpa using U
   rw[R.frozen (T _ a3)];exact hz b off a3
  ·intro ha
   simpa using hn ha
  ·intro x C _
   simpa using C
end
end
end Go.Proofs.YtlogpnoioimhjaaGreatDoor
