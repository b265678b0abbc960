/- . -/
import Derived.Test.YtiljpamcmmeflaaGreatDoorXab
import Derived.Lib.Index
import Derived.Test.YtiljpamcmmeflaaGreatDoorXaa
import Derived.Test.YtiljpamcmmeflaaGreatDoorProg
import Derived.Deep.RegionLaw
import Derived.Laws.BitsAllLaws
import Derived.Deep.DeepCutAuto
import Derived.Deep.RegionHeld3
import Derived.StillTail
import Derived.Deep.Quiet
import Derived.Deep.QuietTactic
import Derived.BigQuiet
import Derived.WalkKit
import Derived.RangeFuncNested
import Derived.RangeFuncBound
import Derived.RangeFuncCalls
import Derived.RangeFuncLeaves
import Derived.Test.YtiljpamcmmeflaaGreatDoorRows
import Derived.Below
import Derived.Lib.Hide
import Derived.Lib.Strings
import Derived.ProofKit
import Derived.OpenShut
import Derived.ShutString
import Derived.Carry
import Derived.ChangeSame
import Derived.Test.YtiljpamcmmeflaaGreatDoorXnm
set_option linter.all false
set_option maxRecDepth 100000
set_option maxHeartbeats 16000000
namespace Go.Proofs.YtiljpamcmmeflaaGreatDoor
open Go.RowKit
open Value renaming slice→nC,int→nE,string→nH,bool→nI
open Option renaming some→nJ,none→nK
open IntKind renaming i64→nM
open Ending renaming returned→nP
open World renaming cell?→nQ
open Go renaming World→nS,Value→nU
variable{B d f i:Nat}{e t:TypeId}{j o:List Deferred}{J:Oper}{a:Act}{cs:Array nU}{xs:List nU}{listed:Array Bool}{A:Nat->Prop}{W:nS}{α:Type}{ps:Array Tmp}
structure Tk where
 k:Nat
 s:List UInt8
 p:Nat
variable{k:Nat}
abbrev Bn:=Nat×Nat
def FW(c:UInt8):Bool:=c==32||c==9||c==10||c==13
def Cw(c:UInt8):Bool:=B9 c==4||B9 c==3
def Cd(p:UInt8->Bool)(l:List UInt8):Nat:=(l.takeWhile p).length
def J0(sz p:Nat)(r:List UInt8):Except Bn (Nat×Nat):=
 if sz<=p+1+Bs r then .error (4,sz) else if r[Bs r]?≠nJ 39\/Bs r=0 then .error (2,p+1+Bs r) else if 24<=1+Bs r then .error (5,p) else .ok (2,Bs r+2)
def JH(sz p:Nat)(r:List UInt8):Except Bn (Nat×Nat):=
 if r.head?=nJ 42 then(if Lib.index (r.drop 1) [42,47]<0 then .error (4,sz) else .ok (0,(Lib.index (r.drop 1) [42,47]).toNat+4)) else .error (2,p)
def Kn(p:Nat)(r:List UInt8):Except Bn (Nat×Nat):=
 if r.head?=nJ 37 then .ok (6,2)
 else if r.take (Cd Cw r)=[116,111,107,101,110] then .ok (7,1+Cd Cw r)
 else if r.take (Cd Cw r)=[115,116,97,114,116] then .ok (8,1+Cd Cw r) else .error (2,p)
def Jg(c:UInt8):Nat:=if c=58 then 3 else if c=124 then 4 else if c=59 then 5 else 0
def GY(sz p:Nat):List UInt8->Except Bn (Nat×Nat)
 | []=>.ok (0,0)
 | c::r=>
  if FW c then .ok (0,Cd FW (c::r))
  else if c=47 then JH sz p r
  else if c=39 then J0 sz p r
  else if c=37 then Kn p r
  else if B9 c=4 then(if 24<Cd Cw (c::r) then .error (5,p) else .ok (1,Cd Cw (c::r)))
  else if Jg c≠0 then .ok (Jg c,1) else .error (2,p)
def E5(sz:Nat):Nat->Nat->List UInt8->Except Bn (List Tk)
 | 0,_,_=>.error (0,0)
 | f+1,p,l=>
  if l.isEmpty then .ok [⟨0,[],sz⟩] else
  match GY sz p l with
  | .error e=>.error e
  | .ok (k,n)=>(match E5 sz f (p+n) (l.drop n) with
   | .error e=>.error e
   | .ok i=>.ok (if k=0 then i else⟨k,l.take n,p⟩::i))
def tokens(l:List UInt8):Except Bn (List Tk):=if 8192<l.length then .error (5,0) else E5 l.length (l.length+1) 0 l
structure PS where
 l:List Tk
 p:Nat
structure PR where
 left:Tk
 GL:List PS
structure Bl where
 decl:List Tk
 marks:List Nat
 starts:List Tk
 rules:List PR
def Bj(t:Tk):Bool:=t.k==1||t.k==2
def DH:List Tk->Bn
 | t::_=>(if t.k=0 then 4 else 3,t.p)
 | []=>(0,0)
def Ct(k:Nat):List Tk->Bool
 | t::_=>t.k==k
 | []=>false
def kC:List Tk->Nat
 | t::_=>t.p
 | []=>0
def C0(x:Bl):List Tk->Except Bn (Bl×List Tk)
 | []=>.error (0,0)
 | t::r=>
  if t.k=7 then(if (r.takeWhile Bj).isEmpty then .error (DH r) else .ok ({x with decl:=x.decl++r.takeWhile Bj},r.dropWhile Bj))
  else if t.k=8 then(if Ct 1 r then .ok ({x with marks:=x.marks++[t.p],starts:=x.starts++r.take 1},r.drop 1) else .error (DH r))
  else .error (DH (t::r))
def F6:Nat->Bl->List Tk->Except Bn (Bl×List Tk)
 | 0,_,_=>.error (0,0)
 | f+1,x,l=>if Ct 6 l then .ok (x,l.drop 1) else
  match C0 x l with
  | .error e=>.error e
  | .ok (j,i)=>F6 f j i
def BU(l:List Tk):PS:=⟨l.takeWhile Bj,kC l⟩
def DO:Nat->List PS->List Tk->List PS×List Tk
 | 0,a,l=>(a,l)
 | f+1,a,l=>if Ct 4 l then DO f (a++[BU (l.drop 1)]) ((l.drop 1).dropWhile Bj) else(a,l)
def CN:List Tk->Except Bn (PR×List Tk)
 | []=>.error (0,0)
 | t::r=>
  if t.k≠1 then .error (DH (t::r)) else if Ct 3 r then
   (
    if Ct 5 (DO r.length [BU (r.drop 1)] ((r.drop 1).dropWhile Bj)).2 then
     .ok (⟨t,(DO r.length [BU (r.drop 1)] ((r.drop 1).dropWhile Bj)).1⟩,(DO r.length [BU (r.drop 1)] ((r.drop 1).dropWhile Bj)).2.drop 1)
    else .error (DH (DO r.length [BU (r.drop 1)] ((r.drop 1).dropWhile Bj)).2))
  else .error (DH r)
def FC:Nat->List PR->List Tk->Except Bn (List PR)
 | 0,_,_=>.error (0,0)
 | f+1,a,l=>if Ct 0 l then .ok a else
  match CN l with
  | .error e=>.error e
  | .ok (r,i)=>FC f (a++[r]) i
def Fq(l:List Tk):Except Bn Bl:=
 match F6 (l.length+1) ⟨[],[],[],[]⟩ l with
 | .error e=>.error e
 | .ok (x,i)=>
  match CN i with
  | .error e=>.error e
  | .ok (r,j)=>
   match FC (l.length+1) [r] j with
   | .error e=>.error e
   | .ok o=>.ok {x with rules:=o}
abbrev AM:=List UInt8
variable{p:AM->Bool}
structure Bd where
 T:List AM
 N:List AM
 R:List (List AM)
def leftOf(x:Bl)(s:AM):Bool:=x.rules.any fun r=>r.left.s==s
def Cv(T:List AM)(t:Tk):Except Bn (List AM):=if T.contains t.s then .error (8,t.p) else if 120<=T.length then .error (7,t.p) else .ok (T++[t.s])
def EB(i:AM->Bool)(st:Tk):Except Bn Unit:=if i st.s then .ok () else .error (9,st.p)
def BI(j:AM->Bool):Option (Nat×Tk)->List Tk->List AM->Except Bn (List AM)
 | none,[],T=>.ok T
 | some (_,l),[],T=>(match EB j l with | .error e=>.error e | .ok _=>.ok T)
 | none,t::r,T=>(match Cv T t with | .error e=>.error e | .ok i=>BI j nK r i)
 | some (m,l),t::r,T=>
  if m<t.p then(match EB j l with | .error e=>.error e | .ok _=>(match Cv T t with | .error e=>.error e | .ok i=>BI j nK r i))
  else(match Cv T t with | .error e=>.error e | .ok i=>BI j (nJ (m,l)) r i)
def DJ:List Nat->Nat
 | _::m::_=>m
 | _=>8193
def BY(x:Bl):Option (Nat×Tk):=match x.marks,x.starts with|m::_,i::_=>nJ (m,i)|_,_=>nK
def Gx(x:Bl):Except Bn (List AM):=
 match BI (leftOf x) (BY x) x.decl [] with
 | .ok T=>if DJ x.marks<=8192 then .error (8,DJ x.marks) else .ok T
 | .error e=>if DJ x.marks<=8192/\DJ x.marks<e.2 then .error (8,DJ x.marks) else .error e
def ET(D:Nat)(b:Bd)(t:Tk):Except Bn Bd:=
 if (b.T.take D).contains t.s then .error (8,t.p) else if b.N.contains t.s then .ok b else if 120<=b.N.length then .error (7,t.p) else .ok {b with N:=b.N++[t.s]}
def D9(i:AM->Bool)(b:Bd)(t:Tk)(k:Nat):Except Bn Bd:=
 if 8<=k then .error (7,t.p) else if b.T.contains t.s then .ok b
 else if t.k=2 then(if 120<=b.T.length then .error (7,t.p) else .ok {b with T:=b.T++[t.s]})
 else if i t.s then .ok b else .error (9,t.p)
def DV(i:AM->Bool):Bd->Nat->List Tk->Except Bn Bd
 | b,_,[]=>.ok b
 | b,k,t::r=>match D9 i b t k with | .error e=>.error e | .ok j=>DV i j (k+1) r
def DY(j:AM->Bool)(b:Bd)(left:AM)(s:PS):Except Bn Bd:=
 if 300<=b.R.length then .error (7,s.p) else
 match DV j b 0 s.l with
 | .error e=>.error e
 | .ok i=>if i.R.contains (left::s.l.map Tk.s) then .error (8,s.p) else .ok {i with R:=i.R++[left::s.l.map Tk.s]}
def Fl(i:AM->Bool)(left:AM):Bd->List PS->Except Bn Bd
 | b,[]=>.ok b
 | b,s::r=>match DY i b left s with | .error e=>.error e | .ok j=>Fl i left j r
def JY(j:AM->Bool)(D:Nat)(b:Bd)(r:PR):Except Bn Bd:=
 match ET D b r.left with | .error e=>.error e | .ok i=>Fl j r.left.s i r.GL
def Dg(i:AM->Bool)(D:Nat):Bd->List PR->Except Bn Bd
 | b,[]=>.ok b
 | b,r::l=>match JY i D b r with | .error e=>.error e | .ok j=>Dg i D j l
def B6(T N:List AM)(s:AM):Nat:=if T.contains s then T.idxOf s+1 else if N.contains s then T.length+N.idxOf s+1 else 0
structure PG where
 T:List AM
 N:List AM
 s:Nat
 R:List (Nat×List Nat)
variable{T:List AM}
def GD(T N:List AM):List AM->Nat×List Nat
 | []=>(0,[])
 | a::l=>(B6 T N a,l.map (B6 T N))
def Hc(x:Bl)(b:Bd):PG:=
 {T:=b.T,N:=b.N,s:=match x.starts with|[]=>b.T.length+1|i::_=>B6 b.T b.N i.s,R:=b.R.map (GD b.T b.N)}
def Gn(x:Bl):Except Bn PG:=
 match Gx x with
 | .error e=>.error e
 | .ok T=>match Dg (leftOf x) T.length ⟨T,[],[]⟩ x.rules with
  | .error e=>.error e
  | .ok b=>.ok (Hc x b)
def Ea(s:List UInt8):Except Bn PG:=
 match tokens s with
 | .error e=>.error e
 | .ok l=>match Fq l with
  | .error e=>.error e
  | .ok x=>Gn x
structure CW(lf:AM->Bool)(D:Nat)(b:Bd):Prop where
 i1:b.T.length<=120
 i2:b.N.length<=120
 i3:b.R.length<=300
 i4:b.T.Nodup
 i5:b.N.Nodup
 i6:∀s∈b.T,(CQ s||CG s)=true
 i7:∀s∈b.N,CQ s=true
 i8:∀s∈b.T.drop D,CG s=true
 i9:∀s∈b.N,s ∉ b.T.take D
 i0:D<=b.T.length
 i10:∀r∈b.R,∃a l,r=a::l/\a∈b.N/\l.length<=8/\∀c∈l,c∈b.T\/lf c=true
 i11:b.R.Nodup
variable{D:Nat}{b:Bd}
structure F1(R:List (List AM))(N:List AM):Prop where
 mem:∀a∈N,∃r∈R,r.head?=nJ a
 ord:∀i j:Nat,i<j->∀a c,N[i]?=nJ a->N[j]?=nJ c->R.findIdx (fun r=>r.head?==nJ a)<R.findIdx (fun r=>r.head?==nJ c)
variable{R:List (List AM)}{N:List AM}
def Tk.CA(t:Tk):Prop:=(t.k=1->CQ t.s=true)/\(t.k=2->CG t.s=true)
def Pb{i:Type}{p:i->Bool}{l r:List i}(h:∃x∈l,p x=true):(l++r).findIdx p=l.findIdx p:=by have j:l.findIdx p<l.length:=List.findIdx_lt_length_of_exists h;rw[List.findIdx_append];simp[j]
def F1.Kv(h:F1 R N)(r:List AM):F1 (R++[r]) N where
 mem a ha:=by obtain⟨x,o,l⟩:=h.mem a ha;exact⟨x,List.mem_append_left _ o,l⟩
 ord i j t a c ha p:=by
  have e:∀a∈N,(R++[r]).findIdx (fun r=>r.head?==nJ a)=R.findIdx (fun r=>r.head?==nJ a):=fun a ha=>Pb (by obtain⟨x,o,l⟩:=h.mem a ha;exact⟨x,o,by simp[l]⟩)
  rw[e a (mG ha),e c (mG p)];exact h.ord i j t a c ha p
def F1.fresh(h:F1 R N)(a:AM)(l:List AM)(ha:a ∉ N)(P:∀r∈R,∃c l,r=c::l/\c∈N):F1 (R++[a::l]) (N++[a]) where
 mem c p:=by
  rcases mA.1 p with p|p
  ·obtain⟨x,o,t⟩:=h.mem c p;exact⟨x,List.mem_append_left _ o,t⟩
  ·rw[mS.1 p];exact⟨a::l,mV,rfl⟩
 ord i j U c d p C:=by
  have a0:j<(N++[a]).length:=(sG.1 C).1;simp at a0;have I:N[i]?=nJ c:=by rw[gL mR]at p;exact p
  have e:(R++[a::l]).findIdx (fun r=>r.head?==nJ c)=R.findIdx (fun r=>r.head?==nJ c):=Pb (by obtain⟨x,o,t⟩:=h.mem c (mG I);exact⟨x,o,by simp[t]⟩);have a1:R.findIdx (fun r=>r.head?==nJ c)<R.length:=List.findIdx_lt_length_of_exists (by obtain⟨x,o,t⟩:=h.mem c (mG I);exact⟨x,o,by simp[t]⟩);rw[e];by_cases hj:j<N.length
  ·have J:N[j]?=nJ d:=by rw[gL hj]at C;exact C
   rw[Pb (by obtain⟨x,o,t⟩:=h.mem d (mG J);exact⟨x,o,by simp[t]⟩)];exact h.ord i j U c d I J
  ·obtain rfl:j=N.length:=by omega
   have:d=a:=by simp at C;exact C.symm
   subst this;have hn:R.findIdx (fun r=>r.head?==nJ d)=R.length:=by rw[List.findIdx_eq_length];intro x o;obtain⟨c',l',rfl,T⟩:=P x o;simp;rintro rfl;exact ha T
   rw[List.findIdx_append,hn];simp;exact h.mem c (mG I)
def CW.left{I:AM->Bool}{l:Bd}{t:Tk}(h:CW I D b)(U:CQ t.s=true)(i:ET D b t=.ok l):CW I D l/\t.s∈l.N/\l.T=b.T/\l.R=b.R/\(l.N=b.N\/(t.s ∉ b.N/\l.N=b.N++[t.s])):=by
 unfold ET at i;split at i
 ·cases i
 rename_i J;split at i
 ·rename_i o
  injection i with i;subst i;exact⟨h,by simpa using o,rfl,rfl,.inl rfl⟩
 rename_i o;split at i
 ·cases i
 rename_i h3;injection i with i;subst i;have C:t.s ∉ b.N:=by simpa using o
 have P:t.s ∉ b.T.take D:=by simpa using J
 refine⟨⟨h.i1,mX,h.i3,h.i4,?_,h.i6,?_,h.i8,?_,h.i0,?_,h.i11⟩,mV,rfl,rfl,.inr ⟨C,rfl⟩⟩
 ·rw[List.nodup_append]
  refine⟨h.i5,mV,?_⟩;intro a ha c p;rw[mS.1 p];rintro rfl;exact C ha
 ·intro s j
  rcases mA.1 j with j|j
  ·exact h.i7 s j
  ·rw[mS.1 j];exact U
 ·intro s j
  rcases mA.1 j with j|j
  ·exact h.i9 s j
  ·rw[mS.1 j];exact P
 ·intro r T
  obtain⟨a,a0,e,ha,R,p⟩:=h.i10 r T;exact⟨a,a0,e,List.mem_append_left _ ha,R,p⟩
variable{left:AM}
def CW.symbol{o:AM->Bool}{l:Bd}{t:Tk}(h:CW o D b)(P:t.CA)(i:D9 o b t k=.ok l):CW o D l/\k<8/\(t.s∈l.T\/o t.s=true)/\l.N=b.N/\l.R=b.R/\(∀s∈b.T,s∈l.T):=by
 unfold D9 at i;split at i
 ·cases i
 rename_i h0;split at i
 ·rename_i p
  injection i with i;subst i;exact⟨h,mR,.inl (by simpa using p),rfl,rfl,fun _ h=>h⟩
 rename_i p;have R:t.s ∉ b.T:=by simpa using p
 split at i
 ·rename_i I
  split at i
  ·cases i
  rename_i J;injection i with i;subst i;refine⟨⟨mX,h.i2,h.i3,?_,h.i5,?_,h.i7,?_,?_,by simp;have:=h.i0;omega,?_,h.i11⟩,mR,.inl mV,rfl,rfl,fun s j=>List.mem_append_left _ j⟩
  ·rw[List.nodup_append]
   refine⟨h.i4,mV,?_⟩;intro a ha c C;rw[mS.1 C];rintro rfl;exact R ha
  ·intro s j
   rcases mA.1 j with j|j
   ·exact h.i6 s j
   ·rw[mS.1 j,P.2 I];simp
  ·intro s j
   rw[List.drop_append_of_le_length h.i0]at j;rcases mA.1 j with j|j
   ·exact h.i8 s j
   ·rw[mS.1 j];exact P.2 I
  ·intro s j
   show s ∉ (b.T++[t.s]).take D;rw[List.take_append_of_le_length h.i0];exact h.i9 s j
  ·intro r hr
   obtain⟨a,a0,e,ha,hl,C⟩:=h.i10 r hr;exact⟨a,a0,e,ha,hl,fun c T=>(C c T).imp (fun U=>List.mem_append_left _ U) id⟩
 ·split at i
  ·rename_i J
   injection i with i;subst i;exact⟨h,mR,.inr J,rfl,rfl,fun _ h=>h⟩
  ·cases i
theorem CW.syms:∀(l:List Tk) {b j:Bd} {k:Nat},CW p D b->(∀t∈l,t.CA)->DV p b k l=.ok j ->
  CW p D j/\(l=[]\/k+l.length<=8)/\(∀t∈l,t.s∈j.T\/p t.s=true)/\j.N=b.N/\j.R=b.R/\(∀s∈b.T,s∈j.T)
 | [],b,j,k,h,_,i=>by simp only[DV]at i;injection i with i;subst i;exact⟨h,.inl rfl,mV,rfl,rfl,fun _ h=>h⟩
 | t::r,b,j,k,h,I,i=>by
  simp only[DV]at i;cases o:D9 p b t k with
  | error e=>rw[o]at i;cases i
  | ok b1=>
   rw[o]at i;obtain⟨R,g2,T,U,g5,g6⟩:=h.symbol (I t mV) o;obtain⟨q1,J,q3,q4,q5,P⟩:=CW.syms r R (fun t ht=>I t (by simp[ht])) i;refine⟨q1,.inr ?_,?_,q4.trans U,q5.trans g5,fun s o=>P s (g6 s o)⟩
   ·rcases J with rfl|J
    ·simp;omega
    ·simp;omega
   ·intro u C
    rcases List.mem_cons.1 C with rfl|C
    ·exact T.imp (P _) id
    ·exact q3 u C
theorem CW.side{o:Bd}{s:PS}(h:CW p D b)(hl:left∈b.N)(hs:∀t∈s.l,t.CA)(i:DY p b left s=.ok o) :
  CW p D o/\o.N=b.N/\o.R=b.R++[left::s.l.map Tk.s]:=by
 unfold DY at i;split at i
 ·cases i
 rename_i h0;cases I:DV p b 0 s.l with
 | error e=>rw[I]at i;cases i
 | ok T=>
  rw[I]at i;simp only at i;split at i
  ·cases i
  rename_i U;injection i with i;subst i;obtain⟨j,J,q3,P,R,q6⟩:=h.syms s.l hs I;have a0:left::s.l.map Tk.s ∉ T.R:=by simpa using U
  refine⟨⟨j.i1,j.i2,by simp;rw[R];omega,j.i4,j.i5,j.i6,j.i7,j.i8,j.i9,j.i0,?_,?_⟩,P,by rw[<-R]⟩
  ·intro r l
   rcases mA.1 l with l|l
   ·exact j.i10 r l
   ·rw[mS.1 l]
    refine⟨left,_,rfl,by rw[P];exact hl,?_,?_⟩
    ·rcases J with e|J
     ·rw[e];simp
     ·simp;omega
    ·intro c C
     obtain⟨t,ht,rfl⟩:=List.mem_map.1 C;exact q3 t ht
  ·rw[List.nodup_append]
   refine⟨j.i11,mV,?_⟩;intro a ha c C;rw[mS.1 C];rintro rfl;exact a0 ha
def M8(b:Bd)(left:AM):Prop:=(F1 b.R b.N/\left∈b.N)\/∃i,b.N=i++[left]/\left ∉ i/\F1 b.R i/\∀r∈b.R,∃c l,r=c::l/\c∈i
theorem CW.GL{C:AM->Bool}:∀(l:List PS) {b j:Bd},CW C D b->M8 b left->(∀s∈l,∀t∈s.l,t.CA)->Fl C left b l=.ok j ->
  CW C D j/\j.N=b.N/\(l≠[]->F1 j.R j.N)/\M8 j left
 | [],b,j,h,p,_,i=>by simp only[Fl]at i;injection i with i;subst i;exact⟨h,rfl,fun h=>absurd rfl h,p⟩
 | s::r,b,j,h,p,hs,i=>by
  simp only[Fl]at i;cases P:DY C b left s with
  | error e=>rw[P]at i;cases i
  | ok I=>
   rw[P]at i;have T:left∈b.N:=by
    rcases p with⟨_,o⟩|⟨N0,o,_⟩
    ·exact o
    ·rw[o];simp
   obtain⟨g1,J,g3⟩:=h.side T (hs s mV) P;have U:F1 I.R I.N:=by
    rw[g3,J];rcases p with⟨o,R⟩|⟨N0,o,R,h3,h4⟩
    ·exact o.Kv _
    ·rw[o];exact h3.fresh left _ R h4
   have a0:M8 I left:=.inl ⟨U,by rw[J];exact T⟩;obtain⟨q1,q2,q3,q4⟩:=CW.GL r g1 a0 (fun s a1=>hs s (by simp[a1])) i;refine⟨q1,q2.trans J,fun _=>?_,q4⟩;by_cases hr:r=[]
   ·subst hr
    simp only[Fl]at i;injection i with i;subst i;exact U
   ·exact q3 hr
theorem CW.AX{J:AM->Bool}{r:PR}{j:Bd}(h:CW J D b)(R:F1 b.R b.N)(hk:CQ r.left.s=true)(o:∀s∈r.GL,∀t∈s.l,t.CA)(a0:r.GL≠[])(l:JY J D b r=.ok j) :
  CW J D j/\F1 j.R j.N/\(∀s∈b.N,s∈j.N)/\r.left.s∈j.N:=by
 unfold JY at l;cases I:ET D b r.left with
 | error e=>rw[I]at l;cases l
 | ok U=>
  rw[I]at l;obtain⟨g1,P,g3,p,i⟩:=h.left hk I;have a1:M8 U r.left.s:=by
   rcases i with i|⟨i,C⟩
   ·exact .inl ⟨by rw[p,i];exact R,P⟩
   ·refine .inr ⟨b.N,C,i,by rw[p];exact R,?_⟩
    rw[p];intro r' a2;obtain⟨a,a3,e,ha,_⟩:=h.i10 r' a2;exact⟨a,a3,e,ha⟩
  obtain⟨q1,T,q3,_⟩:=g1.GL r.GL a1 o l;refine⟨q1,q3 a0,fun s o=>?_,by rw[T];exact P⟩;rw[T];rcases i with i|⟨_,C⟩
  ·rw[i];exact o
  ·rw[C];exact List.mem_append_left _ o
def PR.CA(r:PR):Prop:=CQ r.left.s=true/\(∀s∈r.GL,∀t∈s.l,t.CA)/\r.GL≠[]
theorem CW.rules:∀(l:List PR) {b j:Bd},CW p D b->F1 b.R b.N->(∀r∈l,r.CA)->Dg p D b l=.ok j ->
  CW p D j/\F1 j.R j.N/\(∀s∈b.N,s∈j.N)/\∀r∈l,r.left.s∈j.N
 | [],b,j,h,t,_,i=>by simp only[Dg]at i;injection i with i;subst i;exact⟨h,t,fun _ h=>h,mV⟩
 | r::l,b,j,h,t,o,i=>by
  simp only[Dg]at i;cases C:JY p D b r with
  | error e=>rw[C]at i;cases i
  | ok b1=>
   rw[C]at i;obtain⟨k1,k2,k3⟩:=o r mV;obtain⟨P,R,T,U⟩:=h.AX t k1 k2 k3 C;obtain⟨q1,q2,J,q4⟩:=CW.rules l P R (fun r hr=>o r (by simp[hr])) i;refine⟨q1,q2,fun s o=>J s (T s o),fun r' I=>?_⟩;rcases List.mem_cons.1 I with rfl|I
   ·exact J _ U
   ·exact q4 r' I
def XD{R:AM->Bool}:∀(l:List Tk) (m:Option (Nat×Tk)) {T T':List AM},(∀t∈l,t.CA/\Bj t=true)->T.length<=120->T.Nodup->(∀s∈T,(CQ s||CG s)=true)->BI R m l T=.ok T' ->
  T'.length<=120/\T'.Nodup/\∀s∈T',(CQ s||CG s)=true:=by
 have one:∀{T T':List AM} {t:Tk},t.CA/\Bj t=true->T.length<=120->T.Nodup->(∀s∈T,(CQ s||CG s)=true)->Cv T t=.ok T'->T'.length<=120/\T'.Nodup/\∀s∈T',(CQ s||CG s)=true:=by
  intro T T' t p C j o i;unfold Cv at i;split at i
  ·cases i
  rename_i g1;split at i
  ·cases i
  rename_i g2;injection i with i;subst i;have a0:t.s ∉ T:=by simpa using g1
  refine⟨mX,?_,?_⟩
  ·rw[List.nodup_append]
   refine⟨j,mV,?_⟩;intro a ha c hc;rw[mS.1 hc];rintro rfl;exact a0 ha
  ·intro s J
   rcases mA.1 J with J|J
   ·exact o s J
   ·rw[mS.1 J]
    have:=p.2;unfold Bj at this;rw[Bool.or_eq_true,beq_iff_eq,beq_iff_eq]at this;rcases this with k|k
    ·rw[p.1.1 k];rfl
    ·rw[p.1.2 k];simp
 intro l;induction l with
 | nil=>
  intro m T T' _ C j o i;cases m with
  | none=>simp only[BI]at i;injection i with i;subst i;exact⟨C,j,o⟩
  | some q=>
   obtain⟨m,U⟩:=q;simp only[BI]at i;cases I:EB R U with
   | error e=>rw[I]at i;cases i
   | ok u=>rw[I]at i;injection i with i;subst i;exact⟨C,j,o⟩
 | cons t r ih=>
  intro m T T' p C j o i;have step:∀(m':Option (Nat×Tk)),(match Cv T t with | .error e=>.error e | .ok T1=>BI R m' r T1)=Except.ok T'->T'.length<=120/\T'.Nodup/\∀s∈T',(CQ s||CG s)=true:=by
   intro m' P;cases hd:Cv T t with
   | error e=>rw[hd]at P;cases P
   | ok T1=>rw[hd]at P;obtain⟨k1,k2,k3⟩:=one (p t mV) C j o hd;exact ih m' (fun t a1=>p t (by simp[a1])) k1 k2 k3 P
  cases m with
  | none=>simp only[BI]at i;exact step nK i
  | some q=>
   obtain⟨m,U⟩:=q;simp only[BI]at i;split at i
   ·cases I:EB R U with
    | error e=>rw[I]at i;cases i
    | ok u=>rw[I]at i;exact step nK i
   ·exact step (nJ (m,U)) i
theorem Zi{j:AM->Bool}{st:Tk}:∀(l:List Tk) {m:Nat} {T T':List AM},BI j (nJ (m,st)) l T=.ok T'->j st.s=true:=by
 have one:EB j st=.ok ()->j st.s=true:=by
  unfold EB;split
  ·intro _;assumption
  ·intro h;cases h
 intro l;induction l with
 | nil=>
  intro m T T' i;simp only[BI]at i;cases o:EB j st with
  | error e=>rw[o]at i;cases i
  | ok u=>exact one o
 | cons t r C=>
  intro m T T' i;simp only[BI]at i;split at i
  ·cases o:EB j st with
   | error e=>rw[o]at i;cases i
   | ok u=>exact one o
  ·cases p:Cv T t with
   | error e=>rw[p]at i;cases i
   | ok I=>rw[p]at i;exact C i
def Dc(l:List Tk):Prop:=∀t∈l,t.CA
def Dc.drop{l:List Tk}(h:Dc l)(n:Nat):Dc (l.drop n):=fun t i=>h t (List.mem_of_mem_drop i)
def Dc.IF{l:List Tk}(h:Dc l):Dc (l.dropWhile Bj):=fun t i=>h t ((List.dropWhile_sublist Bj).mem i)
theorem cC{l:List Tk}:∀t∈l.takeWhile Bj,Bj t=true:=by
 induction l with
 | nil=>intro t i;simp at i
 | cons a r j=>
  intro t i;rw[List.takeWhile_cons]at i;split at i
  ·rename_i ha
   rcases List.mem_cons.1 i with rfl|i
   ·exact ha
   ·exact j t i
  ·simp at i
def Dc.RW{l:List Tk}(h:Dc l):∀t∈l.takeWhile Bj,t.CA/\Bj t=true:=fun t i=>⟨h t ((List.takeWhile_sublist Bj).mem i),cC t i⟩
structure Bl.CA(x:Bl):Prop where
 decl:∀t∈x.decl,t.CA/\Bj t=true
 same:x.marks.length=x.starts.length
variable{x:Bl}
theorem ZI{C:Bl}{l J:List Tk}(p:x.CA)(I:Dc l)(i:C0 x l=.ok (C,J)):C.CA/\Dc J/\C.rules=x.rules:=by
 unfold C0 at i;cases l with
 | nil=>cases i
 | cons t r=>
  simp only at i;split at i
  ·split at i
   ·cases i
   ·injection i with i
    obtain⟨rfl,rfl⟩:=Prod.mk.inj i;have o:Dc r:=fun t j=>I t (by simp[j])
    refine⟨⟨?_,p.same⟩,o.IF,rfl⟩;intro t j;rcases mA.1 j with j|j
    ·exact p.decl t j
    ·exact o.RW t j
  ·split at i
   ·split at i
    ·rename_i R P
     injection i with i;obtain⟨rfl,rfl⟩:=Prod.mk.inj i;have o:Dc r:=fun t j=>I t (by simp[j])
     refine⟨⟨p.decl,?_⟩,o.drop 1,rfl⟩;cases r with
     | nil=>simp[Ct]at P
     | cons u T=>simp[p.same]
    ·cases i
   ·cases i
theorem Ul:∀(f:Nat) {x j:Bl} {l p:List Tk},x.CA->Dc l->F6 f x l=.ok (j,p)->j.CA/\Dc p/\j.rules=x.rules
 | 0,_,_,_,_,_,_,i=>by cases i
 | f+1,x,j,l,p,C,t,i=>by
  simp only[F6]at i;split at i
  ·injection i with i
   obtain⟨rfl,rfl⟩:=Prod.mk.inj i;exact⟨C,t.drop 1,rfl⟩
  ·cases o:C0 x l with
   | error e=>rw[o]at i;cases i
   | ok q=>obtain⟨x1,l1⟩:=q;rw[o]at i;obtain⟨I,J,P⟩:=ZI C t o;obtain⟨R,T,U⟩:=Ul f I J i;exact⟨R,T,U.trans P⟩
def Q8{l:List Tk}(i:Dc l):∀t∈(BU l).l,t.CA:=fun t j=>(i.RW t j).1
theorem Q1:∀(f:Nat) {a:List PS} {l:List Tk},a≠[]->(∀s∈a,∀t∈s.l,t.CA)->Dc l ->
  (DO f a l).1≠[]/\(∀s∈(DO f a l).1,∀t∈s.l,t.CA)/\Dc (DO f a l).2
 | 0,a,l,h0,o,i=>⟨h0,o,i⟩
 | f+1,a,l,h0,o,i=>by
  simp only[DO];split
  ·refine Q1 f mV ?_ (i.drop 1).IF
   intro s j;rcases mA.1 j with j|j
   ·exact o s j
   ·rw[mS.1 j];exact Q8 (i.drop 1)
  ·exact⟨h0,o,i⟩
theorem Sy{l p:List Tk}{r:PR}(j:Dc l)(i:CN l=.ok (r,p)):r.CA/\Dc p:=by
 unfold CN at i;cases l with
 | nil=>cases i
 | cons t rest=>
  simp only at i;split at i
  ·cases i
  rename_i T;split at i
  ·split at i
   ·injection i with i
    obtain⟨rfl,rfl⟩:=Prod.mk.inj i;have o:Dc rest:=fun t R=>j t (by simp[R])
    obtain⟨C,I,J⟩:=Q1 rest.length (a:=[BU (rest.drop 1)]) (l:=(rest.drop 1).dropWhile Bj) mV (fun s P=>by rw[mS.1 P];exact Q8 (o.drop 1)) (o.drop 1).IF;exact⟨⟨(j t mV).1 mR,I,C⟩,J.drop 1⟩
   ·cases i
  ·cases i
theorem QG:∀(f:Nat) {a o:List PR} {l:List Tk},(∀r∈a,r.CA)->Dc l->FC f a l=.ok o->(∀r∈o,r.CA)/\(a≠[]->o≠[])
 | 0,_,_,_,_,_,i=>by cases i
 | f+1,a,o,l,ha,I,i=>by
  simp only[FC]at i;split at i
  ·injection i with i
   subst i;exact⟨ha,id⟩
  ·cases p:CN l with
   | error e=>rw[p]at i;cases i
   | ok q=>
    obtain⟨r,T⟩:=q;rw[p]at i;obtain⟨t,C⟩:=Sy I p;obtain⟨J,P⟩:=QG f (a:=a++[r]) (fun R j=>by
     rcases mA.1 j with j|j
     ·exact ha R j
     ·rw[mS.1 j];exact t) C i
    exact⟨J,fun _=>P mV⟩
theorem kI{l:List Tk}(I:Dc l)(i:Fq l=.ok x):x.CA/\(∀r∈x.rules,r.CA)/\x.rules≠[]:=by
 unfold Fq at i;cases o:F6 (l.length+1) ⟨[],[],[],[]⟩ l with
 | error e=>rw[o]at i;cases i
 | ok q=>
  obtain⟨x1,T⟩:=q;rw[o]at i;obtain⟨t,C,_⟩:=Ul _ ⟨mV,rfl⟩ I o;simp only at i;cases p:CN T with
  | error e=>rw[p]at i;cases i
  | ok q=>
   obtain⟨r,U⟩:=q;rw[p]at i;obtain⟨P,R⟩:=Sy C p;simp only at i;cases j:FC (l.length+1) [r] U with
   | error e=>rw[j]at i;cases i
   | ok rs=>rw[j]at i;injection i with i;subst i;obtain⟨m1,m2⟩:=QG _ (fun r' J=>by rw[mS.1 J];exact P) R j;exact⟨⟨t.decl,t.same⟩,m1,m2 mV⟩
theorem Pm{p:UInt8->Bool}(l:List UInt8):l.take (l.takeWhile p).length=l.takeWhile p:=by
 induction l with
 | nil=>rfl
 | cons a r i=>
  rw[List.takeWhile_cons];split
  ·simp[i]
  ·rfl
theorem QB{p:UInt8->Bool}(l:List UInt8):(l.takeWhile p).all p=true:=by
 induction l with
 | nil=>rfl
 | cons a r i=>
  rw[List.takeWhile_cons];split
  ·rename_i h;simp[h]
  ·rfl
theorem iF(r:List UInt8)(x:List UInt8):Bs (r.takeWhile E0++39::x)=Bs r:=by
 unfold Bs;induction r with
 | nil=>rfl
 | cons a r i=>
  by_cases h:E0 a=true
  ·simp[h]
   simpa using i
  ·simp[h]
   rfl
theorem Px{sz p:Nat}{l:List UInt8}{n:Nat}(i:GY sz p l=.ok (k,n)):Tk.CA ⟨k,l.take n,p⟩/\(0<l.length->0<n):=by
 unfold GY at i;cases l with
 | nil=>injection i with i;obtain⟨rfl,rfl⟩:=Prod.mk.inj i;exact⟨⟨(fun h=>by cases h),(fun h=>by cases h)⟩,fun h=>by simp at h⟩
 | cons c r=>
  simp only at i;split at i
  ·rename_i hw
   injection i with i;obtain⟨rfl,rfl⟩:=Prod.mk.inj i;exact⟨⟨(fun h=>by cases h),(fun h=>by cases h)⟩,fun _=>by unfold Cd;simp[hw]⟩
  split at i
  ·unfold JH at i
   split at i
   ·split at i
    ·cases i
    ·injection i with i;obtain⟨rfl,rfl⟩:=Prod.mk.inj i;exact⟨⟨(fun h=>by cases h),(fun h=>by cases h)⟩,fun _=>by omega⟩
   ·cases i
  split at i
  ·rename_i U
   subst U;unfold J0 at i;split at i
   ·cases i
   split at i
   ·cases i
   rename_i o;split at i
   ·cases i
   rename_i h3;injection i with i;obtain⟨rfl,rfl⟩:=Prod.mk.inj i;refine⟨⟨(fun h=>by cases h),fun _=>?_⟩,fun _=>by omega⟩;have t:r[Bs r]?=nJ 39:=by
    by_cases h:r[Bs r]?=nJ 39
    ·exact h
    ·exact absurd (.inl h) o
   have R:Bs r≠0:=fun h=>o (.inr h)
   have T:Bs r<r.length:=(sG.1 t).1;have ht:(39::r).take (Bs r+2)=39::(r.takeWhile E0++[39]):=by rw[List.take_succ_cons,List.take_succ_eq_append_getElem T,(sG.1 t).2];congr 2;exact Pm r
   have P:=iF r [];have J:(r.takeWhile E0).length=Bs r:=rfl;show CG ((39::r).take (Bs r+2))=true;rw[ht];unfold CG;rw[List.drop_succ_cons,List.drop_zero,P];simp[J];refine⟨⟨⟨mR,?_⟩,R⟩,mR⟩;rw[show (39::(r.takeWhile E0++[(39:UInt8)]))[1+Bs r]?=(r.takeWhile E0++[(39:UInt8)])[Bs r]? by rw[Nat.add_comm];rfl];rw[List.getElem?_append_right mR,J];simp
  split at i
  ·unfold Kn at i
   split at i
   ·injection i with i;obtain⟨rfl,rfl⟩:=Prod.mk.inj i;exact⟨⟨(fun h=>by cases h),(fun h=>by cases h)⟩,fun _=>by omega⟩
   split at i
   ·injection i with i;obtain⟨rfl,rfl⟩:=Prod.mk.inj i;exact⟨⟨(fun h=>by cases h),(fun h=>by cases h)⟩,fun _=>by omega⟩
   split at i
   ·injection i with i;obtain⟨rfl,rfl⟩:=Prod.mk.inj i;exact⟨⟨(fun h=>by cases h),(fun h=>by cases h)⟩,fun _=>by omega⟩
   ·cases i
  split at i
  ·rename_i C
   split at i
   ·cases i
   rename_i j;injection i with i;obtain⟨rfl,rfl⟩:=Prod.mk.inj i;have I:Cw c=true:=by unfold Cw;simp[C]
   refine⟨⟨fun _=>?_,(fun h=>by cases h)⟩,fun _=>by unfold Cd;simp[I]⟩;show CQ ((c::r).take (Cd Cw (c::r)))=true;unfold Cd at j ⊢;rw[Pm];rw[List.takeWhile_cons,if_pos I]at j ⊢;unfold CQ E9;have:=QB (p:=Cw) r;have e:((r.takeWhile Cw).all fun d=>B9 d==4||B9 d==3)=true:=this;simp only[e,C,Bool.and_true];simp at j ⊢;omega
  split at i
  ·rename_i P
   injection i with i;obtain⟨rfl,rfl⟩:=Prod.mk.inj i;refine⟨⟨fun h=>?_,fun h=>?_⟩,fun _=>by omega⟩
   ·unfold Jg at h;split at h;· cases h
    split at h;· cases h
    split at h<;>cases h
   ·unfold Jg at h;split at h;· cases h
    split at h;· cases h
    split at h<;>cases h
  ·cases i
theorem P8{sz:Nat}:∀(f p:Nat) (l:List UInt8) {I:List Tk},E5 sz f p l=.ok I->Dc I
 | 0,_,_,_,i=>by cases i
 | f+1,p,l,I,i=>by
  simp only[E5]at i;split at i
  ·injection i with i;subst i
   intro t j;rw[mS.1 j];exact⟨(fun h=>by cases h),(fun h=>by cases h)⟩
  ·cases o:GY sz p l with
   | error e=>rw[o]at i;cases i
   | ok q=>
    obtain⟨k,n⟩:=q;rw[o]at i;simp only at i;cases C:E5 sz f (p+n) (l.drop n) with
    | error e=>rw[C]at i;cases i
    | ok P=>
     rw[C]at i;injection i with i;subst i;have J:=P8 f _ _ C;split
     ·exact J
     ·intro t j
      rcases List.mem_cons.1 j with rfl|j
      ·exact(Px o).1
      ·exact J t j
structure PG.Good(g:PG):Prop where
 g1:g.T.length<=120
 g2:g.N.length<=120
 g3:g.R.length<=300
 g4:∀r∈g.R,r.2.length<=8
 g5:∀s∈g.T,(CQ s||CG s)=true
 g6:∀s∈g.N,CQ s=true
 g7:(g.T++g.N).Nodup
 g8:g.T.length<g.s/\g.s<=g.T.length+g.N.length
 g9:∀r∈g.R,(g.T.length<r.1/\r.1<=g.T.length+g.N.length)/\∀a∈r.2,1<=a/\a<=g.T.length+g.N.length
 g10:g.R.Nodup
 g11:∀i,i<g.N.length->∃r∈g.R,r.1=g.T.length+1+i
 g12:∀i j,i<j->j<g.N.length->g.R.findIdx (fun r=>r.1==g.T.length+1+i)<g.R.findIdx (fun r=>r.1==g.T.length+1+j)
theorem VF(t:x.CA)(i:Gx x=.ok T) :
  (T.length<=120/\T.Nodup/\∀s∈T,(CQ s||CG s)=true)/\∀st l,x.starts=st::l->leftOf x st.s=true:=by
 unfold Gx at i;cases j:BI (leftOf x) (BY x) x.decl [] with
 | error e=>rw[j]at i;simp only at i;split at i<;>cases i
 | ok C=>
  rw[j]at i;simp only at i;split at i
  ·cases i
  injection i with i;subst i;refine⟨XD x.decl (BY x) t.decl mV mV mV j,?_⟩;intro st l p;have:∃m,BY x=nJ (m,st):=by
   unfold BY;rw[p];cases o:x.marks with
   | nil=>have:=t.same;rw[o,p]at this;simp at this
   | cons m I=>exact⟨m,rfl⟩
  obtain⟨m,o⟩:=this;rw[o]at j;exact Zi _ j
theorem YN{s:AM}(h:CQ s=true):CG s=false:=by
 cases s with
 | nil=>rfl
 | cons c r=>
  by_cases i:c=39
  ·subst i
   exfalso;have:CQ (39::r)=false:=by show ((B9 39==4&&(r.all fun d=>B9 d==4||B9 d==3))&&decide ((39::r).length<=24))=false;rw[show (B9 39==4)=false from rfl];rfl
   rw[this]at h;cases h
  ·unfold CG
   simp[i]
def Mw{s:AM}(h:s∈T):B6 T N s=T.idxOf s+1:=by unfold B6;rw[if_pos (by simpa using h)]
def L2{s:AM}(h:s ∉ T)(i:s∈N):B6 T N s=T.length+N.idxOf s+1:=by unfold B6;rw[if_neg (by simpa using h),if_pos (by simpa using i)]
def Rm{a c:AM}(ha:a∈T\/a∈N)(j:c∈T\/c∈N)(h:B6 T N a=B6 T N c):a=c:=by
 have inj:∀{L:List AM} {a c:AM},a∈L->c∈L->L.idxOf a=L.idxOf c->a=c:=by intro L a c ha j h;have l:=List.getElem_idxOf (List.idxOf_lt_length_of_mem ha);have o:=List.getElem_idxOf (List.idxOf_lt_length_of_mem j);rw[<-l,<-o];congr 1
 by_cases i:a∈T
 ·have p:=List.idxOf_lt_length_of_mem i
  rw[Mw i]at h;by_cases c1:c∈T
  ·rw[Mw c1]at h
   exact inj i c1 mR
  ·rw[L2 c1 (j.resolve_left c1)]at h
   omega
 ·rw[L2 i (ha.resolve_left i)]at h
  by_cases c1:c∈T
  ·have p:=List.idxOf_lt_length_of_mem c1
   rw[Mw c1]at h;omega
  ·rw[L2 c1 (j.resolve_left c1)]at h
   exact inj (ha.resolve_left i) (j.resolve_left c1) mR
theorem NJ{i:Type}{p q:i->Bool}:∀{l:List i},(∀x∈l,p x=q x)->l.findIdx p=l.findIdx q
 | [],_=>rfl
 | a::r,h=>by rw[List.findIdx_cons,List.findIdx_cons,h a mV,NJ (fun x j=>h x (by simp[j]))]
theorem Zc{g:PG}(hx:x.CA)(l:∀r∈x.rules,r.CA)(a7:x.rules≠[])(t:Gn x=.ok g):g.Good:=by
 unfold Gn at t;cases R:Gx x with
 | error e=>rw[R]at t;cases t
 | ok T=>
  rw[R]at t;simp only at t;obtain⟨⟨t1,t2,t3⟩,ao⟩:=VF hx R;cases hb:Dg (leftOf x) T.length ⟨T,[],[]⟩ x.rules with
  | error e=>rw[hb]at t;cases t
  | ok b=>
   rw[hb]at t;injection t with t;subst t;have aj:CW (leftOf x) T.length ⟨T,[],[]⟩:=⟨t1,mV,mV,t2,mV,t3,mV,mV,mV,AF _,mV,mV⟩
   obtain⟨j,ho,_,hl⟩:=CW.rules x.rules aj ⟨mV,mV⟩ l hb;have a6:∀s,leftOf x s=true->s∈b.N:=by intro s o;unfold leftOf at o;obtain⟨r,a9,aa⟩:=List.any_eq_true.1 o;rw[<-beq_iff_eq.1 aa];exact hl r a9
   have ab:∀s∈b.N,s ∉ b.T:=by
    intro s o U;rw[<-List.take_append_drop T.length b.T]at U;rcases mA.1 U with U|U
    ·exact j.i9 s o U
    ·have:=j.i8 s U
     rw[YN (j.i7 s o)]at this;cases this
   have hN:∀s∈b.N,B6 b.T b.N s=b.T.length+b.N.idxOf s+1:=fun s o=>L2 (ab s o) o
   have a0:∀s∈b.N,b.N.idxOf s<b.N.length:=fun s o=>List.idxOf_lt_length_of_mem o
   have ak:∀i (h:i<b.N.length),b.N.idxOf b.N[i]=i:=by intro i h;have C:=List.getElem_idxOf (a0 _ (List.getElem_mem h));exact(List.getElem_inj j.i5).1 C
   have ae:∀i (h:i<b.N.length),∀r∈b.R,((GD b.T b.N r).1==b.T.length+1+i)=(r.head?==nJ b.N[i]):=by
    intro i h r l;obtain⟨a,a3,rfl,ha,_⟩:=j.i10 r l;show (B6 b.T b.N a==b.T.length+1+i)=(nJ a==nJ b.N[i])
    rw[hN a ha,Bool.eq_iff_iff,beq_iff_eq,beq_iff_eq,Option.some.injEq];constructor
    ·intro e
     have e2:b.N.idxOf a=i:=by omega
     have C:=List.getElem_idxOf (a0 a ha);rw[<-C];congr 1
    ·rintro rfl
     rw[ak i h];omega
   have ad:∀i (h:i<b.N.length),(b.R.map (GD b.T b.N)).findIdx (fun r=>r.1==b.T.length+1+i)=b.R.findIdx (fun r=>r.head?==nJ b.N[i]):=by intro i h;rw[List.findIdx_map];exact NJ (fun r l=>ae i h r l)
   refine⟨j.i1,j.i2,?_,?_,j.i6,j.i7,?_,?_,?_,?_,?_,?_⟩
   ·show (b.R.map _).length<=300
    simpa using j.i3
   ·intro r l
    obtain⟨r',a8,rfl⟩:=List.mem_map.1 l;obtain⟨a,a3,rfl,_,h8,_⟩:=j.i10 r' a8;simpa [GD] using h8
   ·show (b.T++b.N).Nodup
    rw[List.nodup_append];refine⟨j.i4,j.i5,?_⟩;rintro a ha c p rfl;exact ab a p ha
   ·show b.T.length<(Hc x b).s/\(Hc x b).s<=b.T.length+b.N.length
    unfold Hc;simp only;cases o:x.starts with
    | nil=>
     simp only;have:0<b.N.length:=by
      cases af:x.rules with
      | nil=>exact absurd af a7
      | cons r a3=>exact List.length_pos_of_mem (hl r (by rw[af];simp))
     omega
    | cons st a3=>simp only;have hm:=a6 _ (ao st a3 o);rw[hN _ hm];have:=a0 _ hm;omega
   ·intro r l
    obtain⟨r',a8,rfl⟩:=List.mem_map.1 l;obtain⟨a,a3,rfl,ha,_,p⟩:=j.i10 r' a8;refine⟨?_,?_⟩
    ·show b.T.length<B6 b.T b.N a/\B6 b.T b.N a<=b.T.length+b.N.length
     rw[hN a ha];have:=a0 a ha;omega
    ·intro k hk
     obtain⟨c,ai,rfl⟩:=List.mem_map.1 hk;show 1<=B6 b.T b.N c/\B6 b.T b.N c<=b.T.length+b.N.length;by_cases C:c∈b.T
     ·rw[Mw C]
      have:=List.idxOf_lt_length_of_mem C;omega
     ·have J:=a6 c ((p c ai).resolve_left C)
      rw[hN c J];have:=a0 c J;omega
   ·show (b.R.map (GD b.T b.N)).Nodup
    rw[List.Nodup,List.pairwise_map];refine j.i11.imp_of_mem ?_;intro r1 r2 a9 aa a7;obtain⟨a1,P,rfl,ha1,_,ag⟩:=j.i10 r1 a9;obtain⟨a2,I,rfl,ha2,_,ah⟩:=j.i10 r2 aa;intro e;apply a7;have e1:B6 b.T b.N a1=B6 b.T b.N a2:=congrArg Prod.fst e;have e2:P.map (B6 b.T b.N)=I.map (B6 b.T b.N):=congrArg Prod.snd e;have R:∀c,(c∈b.T\/leftOf x c=true)->(c∈b.T\/c∈b.N):=fun c h=>h.imp id (a6 c)
    have an:∀{P I:List AM},(∀c∈P,c∈b.T\/c∈b.N)->(∀c∈I,c∈b.T\/c∈b.N)->P.map (B6 b.T b.N)=I.map (B6 b.T b.N)->P=I:=by
     intro P;induction P with
     | nil=>intro I _ _ e;cases I with
      | nil=>rfl
      | cons _ _=>cases e
     | cons c r ih=>intro I C J e;cases I with
      | nil=>cases e
      | cons d r2=>rw[List.map_cons,List.map_cons]at e;injection e with e1 e2;rw[Rm (C c mV) (J d mV) e1,ih (fun c p=>C c (by simp[p])) (fun c p=>J c (by simp[p])) e2]
    rw[Rm (.inr ha1) (.inr ha2) e1,an (fun c p=>R c (ag c p)) (fun c p=>R c (ah c p)) e2]
   ·intro i a4
    have a4:i<b.N.length:=a4;obtain⟨r,l,J⟩:=ho.mem b.N[i] (List.getElem_mem a4);refine⟨_,List.mem_map.2 ⟨r,l,rfl⟩,?_⟩;have:=ae i a4 r l;rw[J]at this;exact beq_iff_eq.1 (this.trans mV)
   ·intro i a5 al hj
    have hj:a5<b.N.length:=hj;show (b.R.map (GD b.T b.N)).findIdx (fun r=>r.1==b.T.length+1+i)<(b.R.map (GD b.T b.N)).findIdx (fun r=>r.1==b.T.length+1+a5);rw[ad i mR,ad a5 hj];exact ho.ord i a5 al _ _ (eG mR) (eG hj)
theorem Tm{s:List UInt8}{g:PG}(i:Ea s=.ok g):g.Good:=by
 unfold Ea at i;cases j:tokens s with
 | error e=>rw[j]at i;cases i
 | ok l=>
  rw[j]at i;simp only at i;have I:Dc l:=by
   unfold tokens at j;split at j
   ·cases j
   ·exact P8 _ _ _ j
  cases o:Fq l with
  | error e=>rw[o]at i;cases i
  | ok x=>rw[o]at i;obtain⟨p,t,C⟩:=kI I o;exact Zc p t C i
theorem jD{a:AM}(h:CQ a=true):∃c r,a=c::r/\B9 c=4/\(c::r).all Cw=true/\(c::r).length<=24:=by
 cases a with
 | nil=>cases h
 | cons c r=>unfold CQ E9 at h;simp only[Bool.and_eq_true,decide_eq_true_eq,beq_iff_eq]at h;obtain⟨⟨i,o⟩,l⟩:=h;refine⟨c,r,rfl,i,?_,l⟩;have j:r.all Cw=true:=o;simp only[List.all_cons,j,Bool.and_true];simp[Cw,i]
theorem YI{a:AM}(h:CG a=true):∃m,a=39::(m++[39])/\m.all E0=true/\m≠[]/\m.length<23:=by
 cases a with
 | nil=>cases h
 | cons c r=>
  unfold CG at h;simp only[List.head?_cons,List.drop_succ_cons,List.drop_zero,Bool.and_eq_true,beq_iff_eq,decide_eq_true_eq,bne_iff_ne,ne_eq,Option.some.injEq,List.length_cons]at h;obtain⟨⟨rfl,⟨⟨o,i⟩,j⟩,p⟩,t⟩:=h;rw[Nat.add_comm,List.getElem?_cons_succ]at i;have l:Bs r<r.length:=(sG.1 i).1;refine⟨r.takeWhile E0,?_,QB r,?_,?_⟩
  ·have:r=r.take (Bs r+1):=(Dd mR).symm
   rw[List.take_succ_eq_append_getElem l,(sG.1 i).2]at this;have e:r.take (Bs r)=r.takeWhile E0:=Pm r;rw[e]at this;rw[<-this]
  ·intro e
   apply j;unfold Bs;rw[e];rfl
  ·show Bs r<23
   omega
namespace PG
end PG
namespace PG
end PG
namespace PG
variable {g:PG}
end PG
def Bc(S k:Nat):Nat:=S/2 ^ (64*k)%18446744073709551616
def nW(n:Nat):Nat:=(n+63)/64
def J6(S k:Nat):Bc S k<18446744073709551616:=Nat.mod_lt _ mT
def Hw(S k j:Nat):(Bc S k).testBit j=(decide (j<64)&&S.testBit (64*k+j)):=by unfold Bc;rw[show (18446744073709551616:Nat)=2 ^ 64 from rfl,Nat.testBit_mod_two_pow,Nat.testBit_div_two_pow,Nat.add_comm]
def Oa(S T k:Nat):Bc (S|||T) k=Bc S k|||Bc T k:=by apply Nat.eq_of_testBit_eq;intro j;rw[Nat.testBit_or,Hw,Hw,Hw,Nat.testBit_or];cases decide (j<64)<;>simp
def Py{S n:Nat}(h:S<2 ^ n)(j:n<=i):S.testBit i=false:=Nat.testBit_lt_two_pow (AK h (Nat.pow_le_pow_right mT j))
def QK{S T n:Nat}(i:S<2 ^ n)(j:T<2 ^ n):S|||T<2 ^ n:=Nat.or_lt_two_pow i j
def VK{n:Nat}(j:i<n):2 ^ i<2 ^ n:=Nat.pow_lt_pow_right mT j
def PX(i k:Nat):Bc (2 ^ i) k=if k=i/64 then 2 ^ (i%64) else 0:=by
 apply Nat.eq_of_testBit_eq;intro j;rw[Hw,Nat.testBit_two_pow];split
 ·rename_i o
  rw[Nat.testBit_two_pow];by_cases l:j<64
  ·rw[decide_eq_true l,Bool.true_and,decide_eq_decide]
   omega
  ·rw[decide_eq_false l,Bool.false_and]
   symm;rw[decide_eq_false_iff_not];omega
 ·rw[Nat.zero_testBit]
  by_cases l:j<64
  ·rw[decide_eq_true l,Bool.true_and,decide_eq_false_iff_not]
   omega
  ·rw[decide_eq_false l,Bool.false_and]
def aK(x j:Nat):x &&& 2 ^ j=if x.testBit j then 2 ^ j else 0:=by
 apply Nat.eq_of_testBit_eq;intro i;rw[Nat.testBit_and,Nat.testBit_two_pow];by_cases l:j=i
 ·subst l
  cases h:x.testBit j<;>simp[Nat.testBit_two_pow_self]
 ·rw[decide_eq_false l,Bool.and_false]
  split
  ·rw[Nat.testBit_two_pow_of_ne l]
  ·rw[Nat.zero_testBit]
def Ti(S i:Nat):Bc S (i/64) &&& 2 ^ (i%64)=if S.testBit i then 2 ^ (i%64) else 0:=by rw[aK,Hw,decide_eq_true (by omega:i%64<64),Bool.true_and,show 64*(i/64)+i%64=i by omega]
def bP(S i:Nat):Bc (S|||2 ^ i) (i/64)=Bc S (i/64)|||2 ^ (i%64):=by rw[Oa,PX,if_pos rfl]
def VG(S i k:Nat)(h:k≠i/64):Bc (S|||2 ^ i) k=Bc S k:=by rw[Oa,PX,if_neg h,Nat.or_zero]
def Vr{S n:Nat}(h:S<2 ^ n)(l:n%64≠0):Bc S (nW n-1) &&& (2 ^ (n%64)-1)=Bc S (nW n-1):=by
 apply Nat.eq_of_testBit_eq;intro j;rw[Nat.testBit_and,Nat.testBit_two_pow_sub_one,Hw];by_cases i:j<n%64
 ·rw[decide_eq_true i,Bool.and_true]
 ·rw[Py h (by unfold nW;omega)]
  simp
def TE(S i j:Nat):(Bc S (i/64)/2 ^ (i%64)).testBit j=(decide (j+i%64<64)&&S.testBit (i+j)):=by rw[Nat.testBit_div_two_pow,Hw,show 64*(i/64)+(j+i%64)=i+j by omega]
def Bq(n S:Nat):List Nat:=(List.range n).filter fun i=>S.testBit i
def Lt(n S i:Nat):Option Nat:=((List.range n).filter fun j=>decide (i<=j)&&S.testBit j).head?
def XJ{n S:Nat}(C:k<n)(p:S.testBit k=true)(t:i<=k)(h:∀j,i<=j->j<k->S.testBit j=false):Lt n S i=nJ k:=by
 unfold Lt;rw[show n=k+(n-k) by omega,List.range_add,List.filter_append,List.filter_eq_nil_iff.2,List.nil_append]
 ·rw[show n-k=(n-k-1)+1 by omega,List.range_succ_eq_map,List.map_cons,List.filter_cons,if_pos (by simp[p,t])]
  rfl
 ·intro j o
  rw[List.mem_range]at o;by_cases l:i<=j
  ·simp[h j l o]
  ·simp[l]
def ZO{n S:Nat}(h:∀j,i<=j->j<n->S.testBit j=false):Lt n S i=nK:=by
 unfold Lt;rw[List.filter_eq_nil_iff.2]
 ·rfl
 ·intro j o
  rw[List.mem_range]at o;by_cases l:i<=j
  ·simp[h j l o]
  ·simp[l]
structure Aj(X:Nat->Prop)(w w':nS):Prop where
 os:w'.os=w.os
 tape:w'.tape=w.tape
 output:w'.output=w.output
 size:w.heap.size<=w'.heap.size
 block:∀k,k<w.heap.size->¬X k->w'.heap[k]?=w.heap[k]?
variable{w':nS}
namespace Aj
variable {X Y:Nat->Prop} {a b c:nS}
def refl(X:Nat->Prop)(w:nS):Aj X w w:=⟨rfl,rfl,rfl,AF _,fun _ _ _=>rfl⟩
def AJ(h:Below a a b):Aj X a b:=⟨h.os,h.tape,h.output,h.size,fun k i _=>h.block k i⟩
def trans(h:Aj X a b)(k:Aj Y b c)(o:∀i,i<a.heap.size->Y i->X i):Aj X a c:=
 ⟨k.os.trans h.os,k.tape.trans h.tape,k.output.trans h.output,AY h.size k.size,fun i j l=>(k.block i (AK j h.size) (fun p=>l (o i j p))).trans (h.block i j l)⟩
def next(h:Aj X a b)(k:Aj X b c):Aj X a c:=h.trans k fun _ _ h=>h
def mono(h:Aj X a b)(j:∀i,X i->Y i):Aj Y a b:=⟨h.os,h.tape,h.output,h.size,fun i l p=>h.block i l (fun o=>p (j i o))⟩
def alloc(h:Aj X a b)(o:Obj):Aj X a (b.alloc o):=h.next (AJ ⟨rfl,rfl,rfl,mV,fun k i=>Below.heap_alloc _ _ _ i⟩)
def drew(h:Aj X a b):Aj X a b.drew:=⟨h.os,h.tape,h.output,h.size,h.block⟩
def set(h:Aj X a b){p:Addr}(i:a.heap.size<=p.block\/X p.block)(u:nU):Aj X a (b.setCell p u):=
 ⟨h.os,h.tape,h.output,by simpa [World.setCell] using h.size,fun k l j=>(Below.heap_setCell _ _ _ _ (by rintro rfl;rcases i with i|i;omega;exact j i)).trans (h.block k l j)⟩
def Ap{g:Nat}(h:Aj X a b)(i:Ah a g t cs)(j:¬X g):Ah b g t cs:=(h.block g i.lt j).trans i
def own{base:Nat}{size n:Nat}{v:nU}(h:Aj X a b)(j:a.ownsRow base e size v n xs)(t:∀g,v.ownBlock=nJ g->¬X g):b.ownsRow base e size v n xs:=by
 refine⟨j.1,?_⟩;rcases j.2 with p|⟨g,cap,l,rfl,o,i,rest⟩
 ·exact .inl p
 ·refine .inr ⟨g,cap,l,rfl,o,?_,rest⟩
  rw[h.block g (aG.1 i).1 (t g rfl),i]
def below(h:Aj X a b)(l:B<=a.heap.size)(i:∀k,k<B->¬X k):Below B a b:=⟨h.os,h.tape,h.output,h.size,fun k j=>h.block k mR (i k j)⟩
end Aj
structure AH where
 h:Nat
 wb:Nat
 n:Nat
variable{n:Nat}
def CP(n S:Nat):Array nU:=((List.range (nW n)).map fun k=>Value.int .u64 (Bc S k:Nat)).toArray
structure AU(w:nS)(s:AH)(S:Nat):Prop where
 head:Ah w s.h 296 #[s.n,nC (s.wb,0) (nW s.n) (nW s.n)]
 words:Ah w s.wb 291 (CP s.n S)
 small:1<=s.n/\s.n<=4096
 fit:S<2 ^ s.n
variable{w:nS}{S:Nat}{s:AH}
def AH.v(s:AH):nU:=(s.h,0)
variable{v:nU}
def OK(n S k:Nat)(h:k<nW n):(CP n S)[k]?=nJ (nE .u64 (Bc S k:Nat)):=by unfold CP;rw[List.getElem?_toArray,pG,List.getElem?_range h];rfl
def Ah.newAt{b:Nat}(i:w.heap.size=b):Ah (w.alloc (.cells cs t)) b t cs:=by subst i;exact Ah.new w t cs
def Ji{P:Program}{z:nU}{bytes:Nat}(I:P.underlying t=nJ (.slice e))(h:(P.info? e).map (fun i=>(i.zero,i.size,i.bytes))=nJ (nJ z,1,bytes))(J:z.cells=#[z]){l:Int}(p:l=n)(hb:bytes*n<=281474976710656)(hn:n<=4611686018427387904)(y:nS) :
  (Instr.makeSlice t l l).run P y=.ok (nC (y,0) n n) (y.alloc (.cells (Array.replicate n z) e)):=by
 obtain⟨i,o,R,T,U⟩:=info_parts h;subst p;have j:(i.bytes:Int)*(n:Int)<=281474976710656:=by rw[U,<-Int.natCast_mul];omega
 have C:=run_make (P:=P) y t e i z I o R nM nM n n mR (Int.le_refl _) j mR;rw[C,T,Int.toNat_natCast,Nat.mul_one,J];congr 4;unfold madeCells;apply Array.ext
 ·simp
 ·intro a0 h1 j
  simp[Nat.mod_one]
def YT(n:Nat):CP n 0=Array.replicate (nW n) (nE .u64 0):=by
 unfold CP;apply Array.ext
 ·simp
 ·intro j i l
  simp[Bc]
def LU(i:1<=n)(j:n<=4096):() 192 #[n] w fun e w'=>e=nP (AH.v ⟨w.heap.size+1,w.heap.size,n⟩)/\AU w' ⟨w.heap.size+1,w.heap.size,n⟩ 0/\Below w w w':=by
 have l:=fun y=>Ji (P:=Tryz.prog) (t:=294) (e:=291) (z:=nE .u64 0) (bytes:=8) Tryz.underlying294 mU rfl (l:=((n:Int)+63)/64) (n:=nW n) (by unfold nW;omega) (by unfold nW;omega) (by unfold nW;omega) y
 rw[<-YT]at l;go_enter Tryz.func192,Tryz.ntmps192
 go_wp2;go_ret;refine⟨rfl,⟨?_,?_,⟨i,j⟩,Nat.two_pow_pos _⟩,?_⟩
 ·exact Ah.newAt mV
 ·exact(Ah.new w _ _).alloc _
 ·exact((Below.refl _ w).alloc (AF _) _).alloc mV _
def NV(i:Nat)(j:i<9223372036854775808):bits .and nM (i:Int) 63=((i%64:Nat):Int):=by show IntKind.i64.wrap ((BitVec.ofInt 64 (i:Int) &&& BitVec.ofInt 64 ((63:Nat):Int)).toNat:Int)=_;rw[BitVec.toNat_and,ofInt_u64 i mR,ofInt_u64 63 mR,nat_mask6,IntKind.wrap_i64];omega
def Sq(i:Nat):IntKind.u64.wrap (2 ^ min (IntKind.u64.wrap ((i%64:Nat):Int)).toNat 64)=((2 ^ (i%64):Nat):Int):=by
 have h:i%64<64:=by omega
 simp only[IntKind.wrap_u64];rw[show (((i%64:Nat):Int)%18446744073709551616).toNat=i%64 by omega,Nat.min_eq_left mR];have l:2 ^ (i%64)<2 ^ 64:=Nat.pow_lt_pow_right mT h;have j:((2:Int) ^ (i%64))=((2 ^ (i%64):Nat):Int):=by norm_cast
 rw[j];clear j;generalize 2 ^ (i%64)=p at *;omega
def Od{a b:Bool}(h:a=b):Ending.returned (nI a)=Ending.returned (nI b):=by rw[h]
section
variable {w:nS} {s:AH} {S:Nat}
def AU.later(h:AU w s S)(i:Below w w w'):AU w' s S:=⟨h.head.below i h.head.lt,h.words.below i h.words.lt,h.small,h.fit⟩
def AU.drewN(h:AU w s S)(n:Nat):AU (w.drewN n) s S:=⟨h.head,h.words,h.small,h.fit⟩
def AU.cells(h:AU w s S):nQ w (s.h,0)=nJ (nE nM s.n)/\nQ w (s.h,1)=nJ (nC (s.wb,0) (nW s.n) (nW s.n)):=⟨h.head.cell 0,h.head.cell 1⟩
def AU.word(h:AU w s S)(i:k<nW s.n):nQ w (s.wb,k)=nJ (nE .u64 (Bc S k:Nat)):=(h.words.cell k).trans (OK _ _ _ i)
def AU.Ay{X:Nat->Prop}(h:AU w s S)(i:Aj X w w')(j:¬X s.h)(l:¬X s.wb):AU w' s S:=⟨i.Ap h.head j,i.Ap h.words l,h.small,h.fit⟩
def AU.ne(h:AU w s S):s.h≠s.wb:=Ah.Bh h.head h.words mT
set_option maxRecDepth 100000
def Nf(h:AU w s S):() 219 #[s.v] w fun e w'=>e=nP s.n/\w'=w:=by
 obtain⟨i,-⟩:=h.cells;unfold AH.v;go_enter Tryz.func219,Tryz.ntmps219
 go_wp2;go_ret;exact⟨rfl,rfl⟩
def PN(h:AU w s S)(l:i<s.n):() 193 #[s.v,i] w fun e w'=>e=nP (.tuple #[nE nM ((i/64:Nat):Int),nE .u64 ((2 ^ (i%64):Nat):Int),nI true])/\w'=w:=by
 have j:=Hd (Nf h);unfold AH.v at *;go_enter Tryz.func193,Tryz.ntmps193
 go_wp2_with (go_at_call 219;refine j.mono ?_;rintro e w' ⟨rfl,rfl⟩)
 rw[NV i (by have:=h.small;omega),Sq]
 go_ret3
 exact⟨rfl,rfl⟩
def WL(h:AU w s S)(p:i<s.n):() 236 #[s.v,i] w fun e w'=>e=nP (nI (S.testBit i))/\w'=w:=by
 have o:=Hd (PN h p);obtain⟨-,c1⟩:=h.cells;have t:i/64<nW s.n:=by unfold nW;omega
 have c2:=h.word t;have l:=J6 S (i/64);have C:2 ^ (i%64)<18446744073709551616:=Nat.pow_lt_pow_right (a:=2) (m:=i%64) (n:=64) mT mR;have ha:=u64_and_nat _ _ l C;rw[Ti]at ha;unfold AH.v at *;cases j:S.testBit i with
 | true=>
  rw[j,if_pos rfl]at ha;have I:¬(2 ^ (i%64)=0):=Nat.ne_of_gt (Nat.two_pow_pos _);generalize 2 ^ (i%64)=b at *;generalize Bc S (i/64)=u at *;generalize i/64=k at *;generalize nW s.n=m at *;clear j l;go_enter Tryz.func236,Tryz.ntmps236
  go_wp2_with (go_at_call 193;refine o.mono ?_;rintro e w' ⟨rfl,rfl⟩)
  go_ret;exact⟨Od (by simp[I]),rfl⟩
 | false=>
  rw[j,if_neg mV]at ha;generalize 2 ^ (i%64)=b at *;generalize Bc S (i/64)=u at *;generalize i/64=k at *;generalize nW s.n=m at *;clear j l;go_enter Tryz.func236,Tryz.ntmps236
  go_wp2_with (go_at_call 193;refine o.mono ?_;rintro e w' ⟨rfl,rfl⟩)
  go_ret;exact⟨rfl,rfl⟩
def AU.set(h:AU w s S){k:Nat}(J:k<nW s.n){T:Nat}(t:T<2 ^ s.n)(o:∀j,j≠k->Bc T j=Bc S j){u:Int}(C:u=(Bc T k:Nat)):AU (w.setCell (s.wb,k) (nE .u64 u)) s T:=by
 subst C;refine⟨h.head.BC h.ne _,?_,h.small,t⟩;have p:=h.words.AW k (nE .u64 (Bc T k:Nat));have e:(CP s.n S).setIfInBounds k (nE .u64 (Bc T k:Nat))=CP s.n T:=by
  unfold CP;apply Array.ext
  ·simp
  ·intro j I l
   rw[Array.getElem_setIfInBounds (by simpa using l)];simp only[List.getElem_toArray,List.getElem_map,List.getElem_range];split
   ·rename_i i
    subst i;rfl
   ·rename_i i
    rw[o j (fun e=>i e.symm)]
 rw[<-e];exact p
def AH.X(s:AH)(k:Nat):Prop:=k=s.wb
def Nt(h:AU w s S)(C:i<s.n):() 150 #[s.v,i] w fun e w'=>e=nP (nI (!S.testBit i))/\AU w' s (S|||2 ^ i)/\Aj s.X w w':=by
 have p:=Hd (PN h C);have T:=Hd h;obtain⟨-,c1⟩:=h.cells;have J:i/64<nW s.n:=by unfold nW;omega
 have c2:=h.word J;have o:=J6 S (i/64);have R:2 ^ (i%64)<18446744073709551616:=Nat.pow_lt_pow_right (a:=2) (m:=i%64) (n:=64) mT mR;have ha:=u64_and_nat _ _ o R;have P:=u64_or_nat _ _ o R;rw[Ti]at ha;rw[<-bP]at P;have a0:=h.words.frozen (i/64);cases l:S.testBit i with
 | true=>
  have t:S|||2 ^ i=S:=by
   apply Nat.eq_of_testBit_eq;intro j;rw[Nat.testBit_or,Nat.testBit_two_pow];by_cases I:i=j
   ·subst I;rw[l];rfl
   ·rw[decide_eq_false I,Bool.or_false]
  rw[l,if_pos rfl]at ha;have a1:¬(2 ^ (i%64)=0):=Nat.ne_of_gt (Nat.two_pow_pos _);have a2:(((2 ^ (i%64):Nat):Int) != 0)=true:=by rw[bne_iff_ne];omega
  rw[t]at *;clear P t;unfold AH.v at *;generalize 2 ^ (i%64)=b at *;generalize Bc S (i/64)=u at *;generalize i/64=k at *;generalize nW s.n=m at *;clear l o h a0;go_enter Tryz.func150,Tryz.ntmps150
  go_wp2_with (go_at_call 193;refine p.mono ?_;rintro e w' ⟨rfl,rfl⟩)
  go_ret;exact⟨rfl,T,Aj.refl _ _⟩
 | false=>
  have U:Hid (AU (w.setCell (s.wb,i/64) (nE .u64 (Bc (S|||2 ^ i) (i/64):Nat))) s (S|||2 ^ i)):=Hd (h.set J (QK h.fit (VK C)) (fun j hj=>VG S i j hj) rfl);rw[l,if_neg mV]at ha;unfold AH.v at *;generalize 2 ^ (i%64)=b at *;generalize Bc S (i/64)=u at *;generalize Bc (S|||2 ^ i) (i/64)=u2 at *;generalize i/64=k at *;generalize nW s.n=m at *;clear l o h;go_enter Tryz.func150,Tryz.ntmps150
  go_wp2_with (go_at_call 193;refine p.mono ?_;rintro e w' ⟨rfl,rfl⟩)
  go_ret;exact⟨rfl,U,(Aj.refl s.X _).set (p:=(s.wb,k)) (.inr rfl) _⟩
end
def gF:El Tryz.prog 294 291 1 8:=El.of (z:=nE .u64 0) Tryz.underlying294 mU rfl mT
def DE(w:nS)(o:Obj):Below w w (w.alloc o):=(Below.refl _ w).alloc (AF _) o
def Zx{ad:Addr}{c:Nat}(l:∀y,Below w w y->Ba y (nC (nJ ad) n c) n 1 xs)(T:n<=1048576) :
  () 238 #[nC (nJ ad) n c] w fun e w'=>∃A j,e=nP (nC A n j)/\w'.ownsRow w 291 1 (nC A n j) n xs/\Below w w w':=by
 have I:=Hd l;have J:Hid (∀y:nS,y=w.alloc (.cells #[] 291)->y.ownsRow w 291 1 (nC (w,0) 0 0) 0 []):=Hd (fun y P=>by rw[P];exact NO (W:=w) rfl (AF _) mT rfl);have U:∀(y:nS) (ad:Addr) (n c:Nat),(binOp BinOp.eql 294 (nC (nJ ad) n c) (nC nK 0 0)).run Tryz.prog y=.ok (nI false) y:=fun _ _ _ _=>by kernel_rfl
 clear l;go_enter Tryz.func238,Tryz.ntmps238
 go_wp2_with (
   at_builtin;refine Du gF (.tmp 5) (.tmp 6) rfl rfl (base:=w.heap.size) (n:=0) (m:=n) (N:=n) (xs:=[]) (news:=xs) rfl rfl (J _ rfl) (I _ (DE w _)) mR mW mR mV ?_
   intro C c2 t o p R;have i:Hid (t.ownsRow w 291 1 (nC C n c2) n xs/\Below w w t):=Hd ⟨by simpa using o,(DE w _).trans (p.below mV)⟩;clear o p R)
 go_ret;exact⟨_,_,rfl,i.1,i.2⟩
def T9{i:Type}{l:List i}{v:i}(h:l[k]?=nJ v):l.set k v=l:=by obtain⟨j,rfl⟩:=sG.1 h;exact List.set_getElem_self j
section
variable {w:nS} {s:AH} {S:Nat}
def AU.src(h:AU w s S):Ba w (nC (s.wb,0) (nW s.n) (nW s.n)) (nW s.n) 1 (CP s.n S).toList:=by
 refine Ba.Ap (g:=s.wb) (t:=291) (by simpa using h.words) ?_ ?_
 ·unfold CP;simp
 ·intro u i
  unfold CP at i;simp only[List.mem_map]at i;obtain⟨k,_,rfl⟩:=i;rfl
def jG(h:AU w s S):() 221 #[s.v,s.n] w fun e w'=>∃A c,e=nP (nC A (nW s.n) c)/\w'.ownsRow w 291 1 (nC A (nW s.n) c) (nW s.n) (CP s.n S).toList/\Below w w w':=by
 have t:=Hd (Zx (n:=nW s.n) (c:=nW s.n) (ad:=(s.wb,0)) (fun y hy=>(h.later hy).src) (by have:=h.small;unfold nW;omega));obtain⟨c0,c1⟩:=h.cells;have ag:=h.small;have hm:((s.n:Int)+63)/64=(nW s.n:Nat):=by unfold nW;omega
 have T:1<=nW s.n:=by unfold nW;omega
 have a0:=NV s.n mR;have P:s.n%64≠0->Bc S (nW s.n-1) &&& (2 ^ (s.n%64)-1)=Bc S (nW s.n-1):=Vr h.fit;have a8:(CP s.n S).toList.length=nW s.n:=by unfold CP;simp
 have C:(CP s.n S).toList[nW s.n-1]?=nJ (nE .u64 (Bc S (nW s.n-1):Nat)):=by have:=OK s.n S (nW s.n-1) mR;simpa using this
 have U:=J6 S (nW s.n-1);have af:=Sq s.n;have hp:2 ^ (s.n%64)<18446744073709551616:=Nat.pow_lt_pow_right (a:=2) (m:=s.n%64) (n:=64) mT mR;have aa:0<2 ^ (s.n%64):=Nat.two_pow_pos _;have hand:=u64_and_nat (Bc S (nW s.n-1)) (2 ^ (s.n%64)-1) U mR;have a2:w.frozen? (s.h,0)=false:=h.head.frozen 0;unfold AH.v;generalize (CP s.n S).toList=xs at *;generalize a9:nW s.n=m at *;generalize s.n%64=r at *;generalize 2 ^ r=p at *;generalize Bc S (m-1)=u at *;clear h;by_cases I:r=0
 ·subst I
  go_enter Tryz.func221,Tryz.ntmps221
  go_wp2_with (go_at_call 238;refine t.mono ?_;rintro e w' ⟨A,c,rfl,i,j⟩;have o:=Hd i;have l:=Hd j;clear i j)
  go_ret;exact⟨_,_,rfl,o,l⟩
 ·rw[P I]at hand
  have J:(0:Int)<(m:Int):=by omega
  have ad:IntKind.u64.wrap ((p:Int)-1)=((p-1:Nat):Int):=by rw[IntKind.wrap_u64];omega
  have ae:((r:Int) != 0)=true:=by rw[bne_iff_ne];omega
  have ab:0<m:=T;clear J;go_enter Tryz.func221,Tryz.ntmps221
  go_wp2_with (
    go_at_call 238;refine t.mono ?_;rintro e w' ⟨A,c,rfl,i,j⟩
    have o:=Hd i;have l:=Hd j;rcases Bg i with⟨_,h0⟩|⟨g,c',R,a4,a5,a6,a7,-⟩
    ·omega
    cases R
    have a1:=(Bb i (m-1) mR).trans C;have a3:=GU i (m-1);clear i j)
  go_ret;refine⟨_,_,rfl,?_,l.trans ?_⟩
  ·have h:=Gl o (m-1) mR (nE .u64 u)
   rwa [T9 C]at h
  ·exact⟨rfl,rfl,rfl,by simp[World.setCell],fun k hk=>Below.heap_setCell _ _ _ _ (by show k≠g;omega)⟩
def bE(w:nS)(n:Int):() 221 #[.pointer nK,n] w fun e w'=>e=nP (nC nK 0 0)/\w'=w:=by
 go_enter Tryz.func221,Tryz.ntmps221
 go_wp2;go_ret;exact⟨rfl,rfl⟩
def CX(S T j:Nat):Nat:=S|||(T%2 ^ (64*j))
def iH(T j k:Nat):Bc (T%2 ^ (64*j)) k=if k<j then Bc T k else 0:=by
 apply Nat.eq_of_testBit_eq;intro i;rw[Hw,Nat.testBit_mod_two_pow];split
 ·rename_i h
  rw[Hw];by_cases l:i<64
  ·rw[decide_eq_true (by omega:64*k+i<64*j),Bool.true_and]
  ·rw[decide_eq_false l,Bool.false_and,Bool.false_and]
 ·rename_i h
  rw[decide_eq_false (by omega:¬64*k+i<64*j),Bool.false_and,Bool.and_false,Nat.zero_testBit]
def Ju(S T j k:Nat):Bc (CX S T j) k=if k<j then Bc S k|||Bc T k else Bc S k:=by
 unfold CX;rw[Oa,iH];split
 ·rfl
 ·rw[Nat.or_zero]
def YM{T:Nat}(i:S<2 ^ n)(l:T<2 ^ n)(j:Nat):CX S T j<2 ^ n:=QK i (Nat.lt_of_le_of_lt (Nat.mod_le _ _) l)
def RS(S T:Nat):CX S T 0=S:=by unfold CX;simp[Nat.mod_one]
def gC{T:Nat}(j:S<2 ^ n)(i:T<2 ^ n):CX S T (nW n)=S|||T:=by unfold CX;rw[Nat.mod_eq_of_lt];exact AK i (Nat.pow_le_pow_right mT (by unfold nW;omega))
def fB{a b:Nat}(ha:a<18446744073709551616)(C:b<18446744073709551616):a &&& (18446744073709551615-b)=0<->b|||a=b:=by
 have o:∀i,(18446744073709551615-b).testBit i=(decide (i<64)&&!b.testBit i):=by intro i;have:=Nat.testBit_two_pow_sub_succ (n:=64) (x:=b) mR i;rw[show 2 ^ 64-(b+1)=18446744073709551615-b by omega]at this;exact this
 constructor
 ·intro h
  apply Nat.eq_of_testBit_eq;intro i;have j:=congrArg (fun x=>x.testBit i) h;simp only[Nat.testBit_and,o,Nat.zero_testBit]at j;rw[Nat.testBit_or];by_cases p:i<64
  ·rw[decide_eq_true p,Bool.true_and]at j
   cases l:a.testBit i
   ·rw[Bool.or_false]
   ·rw[l,Bool.true_and]at j
    cases t:b.testBit i
    ·rw[t]at j;cases j
    ·rfl
  ·rw[Py (n:=64) ha mR,Bool.or_false]
 ·intro h
  apply Nat.eq_of_testBit_eq;intro i;have j:=congrArg (fun x=>x.testBit i) h;simp only[Nat.testBit_or]at j;rw[Nat.testBit_and,o,Nat.zero_testBit];cases l:a.testBit i
  ·rw[Bool.false_and]
  ·rw[l,Bool.or_true]at j
   rw[<-j];simp
def WT{T j:Nat}:CX S T (j+1)=CX S T j<->Bc S j|||Bc T j=Bc S j:=by
 constructor
 ·intro h
  have:=congrArg (fun x=>Bc x j) h;simp only[Ju]at this;rwa [if_pos mR,if_neg mR]at this
 ·intro h
  apply Nat.eq_of_testBit_eq;intro i;have e:∀x:Nat,x.testBit i=(Bc x (i/64)).testBit (i%64):=fun x=>by rw[Hw,decide_eq_true (by omega:i%64<64),Bool.true_and,show 64*(i/64)+i%64=i by omega]
  rw[e,e,Ju,Ju];by_cases o:i/64=j
  ·rw[o,if_pos mR,if_neg mR,h]
  ·by_cases l:i/64<j
   ·rw[if_pos mR,if_pos l]
   ·rw[if_neg mR,if_neg l]
end
def dK{t:AH}{T:Nat}(h:AU w s S)(ht:AU w t T)(hn:t.n=s.n):() 197 #[s.v,t.v] w fun e w'=>e=nP (nI (CX S T (nW s.n) != S))/\AU w' s (CX S T (nW s.n))/\Aj s.X w w':=by
 have HR:=Hd (Nf h);have HW:=Hd (jG ht);rw[hn]at HW;have HH:=Hd h;have a1:=ht.fit;rw[hn]at a1;have al:=h.words.lt;have ar:=h.small;have ao:1<=nW s.n:=by unfold nW;omega
 have an:nW s.n<=64:=by unfold nW;omega
 have a7:∀k,k<nW s.n->(CP s.n T).toList[k]?=nJ (nE .u64 (Bc T k:Nat)):=fun k o=>by have:=OK s.n T k o;simpa using this
 have ak:(CP s.n T).toList.length=nW s.n:=by unfold CP;simp
 generalize (CP s.n T).toList=xs at *;have HG:=Hd a7;have aa:Hid (∀(y:nS) (X:Nat),AU y s X->nQ y (s.h,1)=nJ (nC (s.wb,0) (nW s.n) (nW s.n))/\∀k,k<nW s.n->nQ y ⟨s.wb,k,nK⟩=nJ (nE .u64 (Bc X k:Nat))/\y.frozen? ⟨s.wb,k,nK⟩=false):=Hd (fun y X J=>⟨J.cells.2,fun k o=>⟨J.word o,J.words.frozen k⟩⟩);have ad:Hid (∀(y:nS) (X p k:Nat),AU y s X->k<nW s.n->p<2 ^ s.n->(∀j,j≠k->Bc p j=Bc X j)->∀u:Int,u=(Bc p k:Nat)->AU (y.setCell ⟨s.wb,k,nK⟩ (nE .u64 u)) s p):=Hd (fun y X p k J o hX h1 u hu=>J.set o hX h1 hu);have HF:Hid (∀j,CX S T j<2 ^ s.n):=Hd (YM h.fit a1)
 unfold AH.v at *;clear h ht a7 a1;generalize hm:nW s.n=m at *;go_enter Tryz.func197,Tryz.ntmps197
 go_wp2_with (first
  | (go_at_call 219;refine HR.mono ?_;rintro e w' ⟨rfl,rfl⟩)
  | (
    go_at_call 221;refine HW.mono ?_;rintro e w1 ⟨A,c,rfl,a5,i⟩
    have ab:=Hd a5;have HB:=Hd i;rcases Bg a5 with⟨_,h0⟩|⟨g,c',he,ag,ah,ai,aj,-⟩
    · omega
    cases he
    clear a5 i))
 go_loopw [5,13] (fun ch a6 wr=>∃k:Nat,k<=m/\a6=nE nM k/\ch=nI (CX S T k != S)/\Hid (AU wr s (CX S T k))/\Hid (Aj s.X w1 wr)) (fun _ a6 _=>m-(intOf a6).toNat)
 case atStart=>exact⟨0,A0 _,rfl,by rw[RS];simp,Hd (by rw[RS];exact HH.later HB),Hd (Aj.refl _ _)⟩
 case round=>
  obtain⟨k,o,rfl,rfl,l,P⟩:=hrel;by_cases a2:k<m
  ·obtain⟨d1,d2⟩:=aa wr _ l
   obtain⟨d3,d4⟩:=d2 k a2;have C:=WT (S:=S) (T:=T) (j:=k);have af:nQ wr ⟨g,k,nK⟩=nJ (nE .u64 (Bc T k:Nat)):=by have hr:=P.own ab (fun b i=>by cases i;show ¬g=s.wb;omega);exact(Bb hr k mR).trans (HG k a2)
   have i:=J6 T k;have ha:=J6 S k;have e1:Bc (CX S T k) k=Bc S k:=by rw[Ju,if_neg mR]
   have R:Bc (CX S T (k+1)) k=Bc S k|||Bc T k:=by rw[Ju,if_pos mR]
   rw[e1]at d3;have hand:=u64_andNot_nat _ _ i ha;have ae:=u64_or_nat _ _ ha i;have U:=fB i ha;clear d2;by_cases I:Bc T k &&& (18446744073709551615-Bc S k)=0
   · have a3:=C.2 (U.1 I)
     rw[I]at hand;have a0:Hid (AU wr s (CX S T (k+1))):=Hd (by rw[a3];exact l);have a4:(CX S T (k+1) != S)=(CX S T k != S):=by rw[a3]
     generalize (CX S T k != S)=ch at *;clear l a3 U C I e1 R ae;generalize Bc T k=b at *;generalize Bc S k=a at *;go_wp2_with fail
     go_roundw
     case rel=>exact⟨k+1,mR,mY,by rw[a4],a0,P⟩
     case measure=>simp[intOf];omega
   · have a9:¬CX S T (k+1)=CX S T k:=fun e=>I (U.2 (C.1 e))
     have a4:(CX S T (k+1) != S)=true:=by rw[bne_iff_ne];intro e;have e3:=congrArg (fun x=>Bc x k) e;simp only[R]at e3;exact a9 (C.2 e3)
     have a0:Hid (AU (wr.setCell ⟨s.wb,k,nK⟩ (nE .u64 ((Bc S k|||Bc T k:Nat):Int))) s (CX S T (k+1))):=Hd (ad wr _ _ k l a2 (HF _) (fun j hj=>by
       rw[Ju,Ju];by_cases a8:j<k
       ·rw[if_pos mR,if_pos a8]
       ·rw[if_neg mR,if_neg a8]) _ (by rw[R]))
     have aq:(((Bc T k &&& (18446744073709551615-Bc S k):Nat):Int) != 0)=true:=by rw[bne_iff_ne];omega
     generalize (CX S T k != S)=ch at *;clear l U C I e1 R a9;generalize Bc T k &&& (18446744073709551615-Bc S k)=z at *;generalize Bc S k|||Bc T k=au at *;generalize Bc T k=b at *;generalize Bc S k=a at *;go_wp2_with fail
     go_roundw
     case rel=>exact⟨k+1,mR,mY,by rw[a4],a0,Hd (P.set (p:=⟨s.wb,k,nK⟩) (.inr rfl) _)⟩
     case measure=>simp[intOf];omega
  ·obtain rfl:k=m:=by omega
   go_wp2_with fail
   go_ret;exact⟨rfl,l,((Aj.AJ HB).next P)⟩
theorem or_nil(h:AU w s S):() 197 #[s.v,.pointer nK] w fun e w'=>e=nP (nI false)/\w'=w:=by
 have j:=Hd (Nf h);have l:=Hd (bE w s.n);unfold AH.v at *;clear h;go_enter Tryz.func197,Tryz.ntmps197
 go_wp2_with (first
  | (go_at_call 219;refine j.mono ?_;rintro e w' ⟨rfl,rfl⟩)
  | (go_at_call 221;refine l.mono ?_;rintro e p ⟨rfl,rfl⟩))
 go_loopw [5,13] (fun o i wr=>i=nE nM 0/\o=nI false/\wr=p) (fun _ i _=>0)
 case atStart=>exact⟨rfl,rfl,rfl⟩
 case round=>
  obtain⟨rfl,rfl,rfl⟩:=hrel;go_wp2_with fail
  go_ret;exact⟨rfl,rfl⟩
def EU(n S i:Nat):Int:=match Lt n S i with|some k=>(k:Int)|none => -1
def Om(p:k<n)(l:S.testBit k=true)(o:i<=k)(h:∀j,i<=j->j<k->S.testBit j=false):EU n S i=k:=by unfold EU;rw[XJ p l o h]
def LR(h:∀j,i<=j->j<n->S.testBit j=false):EU n S i = -1:=by unfold EU;rw[ZO h]
def aO(i:Nat)(t:i<9223372036854775000):bits .or nM (i:Int) 63=((i/64*64+63:Nat):Int):=by
 show IntKind.i64.wrap ((BitVec.ofInt 64 (i:Int)|||BitVec.ofInt 64 ((63:Nat):Int)).toNat:Int)=_;have e:i|||63=i/64*64+63:=by
  apply Nat.eq_of_testBit_eq;intro j;have o:=Nat.testBit_two_pow_sub_one 6 j;rw[show 2 ^ 6-1=63 by rfl]at o;have p:i/64*64+63=2 ^ 6*(i/64)+63:=by omega
  rw[Nat.testBit_or,o,p,Nat.testBit_two_pow_mul_add _ mT,o];by_cases l:j<6
  ·rw[if_pos l,decide_eq_true l,Bool.or_true]
  ·rw[if_neg l,decide_eq_false l,Bool.or_false,show (64:Nat)=2 ^ 6 by rfl,Nat.testBit_div_two_pow,show j-6+6=j by omega]
 rw[BitVec.toNat_or,ofInt_u64 i mR,ofInt_u64 63 mR,e,IntKind.wrap_i64];omega
def aC(h:Bc S (i/64)/2 ^ (i%64)=0):∀j,i<=j->j<i/64*64+64->S.testBit j=false:=by intro j l o;have e:=TE S i (j-i);rw[h,Nat.zero_testBit,decide_eq_true (by omega:j-i+i%64<64),Bool.true_and,show i+(j-i)=j by omega]at e;exact e.symm
def Oy{i0:Nat}(h:AU w s S)(hi:i0<=5000):() 195 #[s.v,i0] w fun e w'=>e=nP (nE nM (EU s.n S i0))/\w'=w:=by
 have U:=Hd (Nf h);have HH:=Hd h;obtain⟨-,c1⟩:=h.cells;have ak:=h.small;unfold AH.v at *;clear h;go_enter Tryz.func195,Tryz.ntmps195
 go_wp2_with fail
 go_loopw [5] (fun i wr=>∃k:Nat,k<=9000/\i=nE nM k/\wr=w/\Hid (i0<=k/\∀j,i0<=j->j<k->S.testBit j=false)) (fun i _=>9000-(intOf i).toNat)
 case atStart=>exact⟨i0,mR,rfl,rfl,Hd ⟨AF _,fun j o P=>by omega⟩⟩
 case round=>
  obtain⟨k,hk,rfl,rfl,I⟩:=hrel;by_cases aj:k<s.n
  ·have c2:=HH.word (k:=k/64) (by unfold nW;omega)
   have af:((k/64:Nat):Int)=(k:Int)/64:=by omega
   have ab:=NV k mR;have ag:k/64<nW s.n:=by unfold nW;omega
   have ad:=aO k mR;have ae:((Bc S (k/64):Nat):Int)/2 ^ (k%64)=((Bc S (k/64)/2 ^ (k%64):Nat):Int):=by norm_cast
   have a2:Bc S (k/64)/2 ^ (k%64)<18446744073709551616:=Nat.lt_of_le_of_lt (Nat.div_le_self _ _) (J6 _ _);have a3:=TE S k;have a4:Bc S (k/64)/2 ^ (k%64)=0->_:=aC;have HZ:=Hd a4;have HT:=Hd a3;clear a4 a3;generalize a1:Bc S (k/64)/2 ^ (k%64)=R at *;by_cases T:R=0
   ·have HB:Hid (i0<=k/64*64+64/\∀j,i0<=j->j<k/64*64+64->S.testBit j=false):=Hd ⟨by have:=I.1;omega,fun j o P=>by
     by_cases C:j<k
     ·exact I.2 j o C
     ·exact HZ T j mR P⟩
    have ai:((R:Int)==0)=true:=by rw[T];rfl
    clear a1 T HZ HT;go_wp2_with (go_at_call 219;refine U.mono ?_;rintro e w' ⟨rfl,rfl⟩)
    go_roundw
    case rel=>exact⟨k/64*64+64,mR,mY,trivial,HB⟩
    case measure=>simp[intOf];omega
   ·have ai:((R:Int)==0)=false:=by rw[bN];omega
    have aa:=Hd T;clear a1 T HZ;go_wp2_with (go_at_call 219;refine U.mono ?_;rintro e w' ⟨rfl,rfl⟩)
    rename nS=>wz
    clear ab ad af ag c2 U;go_loopw [5,6] (fun i r wr=>∃t x:Nat,t<=63/\i=nE nM ((k:Int)+t)/\r=nE .u64 x/\wr=wz/\¬(x=0)/\Hid (x=R/2 ^ t/\∀j,j<t->R.testBit j=false)) (fun i _ _=>k+64-(intOf i).toNat)
    case atStart=>exact⟨0,R,mR,mV,by rw[ae],rfl,aa,Hd ⟨mV,fun j C=>absurd C (Nat.not_lt_zero _)⟩⟩
    case round=>
     obtain⟨t,x,ht,rfl,rfl,rfl,an,l⟩:=hrel;have a7:x<18446744073709551616:=by rw[l.1];exact Nat.lt_of_le_of_lt (Nat.div_le_self _ _) a2
     have hand:bits .and .u64 (x:Int) 1=((x%2:Nat):Int):=by rw[<-nat_mask1];exact u64_and_nat x 1 a7 mT
     have a6:R.testBit t=decide (x%2=1):=by rw[l.1,Nat.testBit_eq_decide_div_mod_eq]
     have J:=Hd a6;clear a6;by_cases hq:x%2=0
     ·rw[hq,Int.natCast_zero]at hand
      have al:t+1<=63:=by
       by_cases p:t+1<=63
       ·exact p
       ·exfalso
        have o:t=63:=by omega
        have P:x<2:=by rw[l.1,o];exact Nat.div_lt_of_lt_mul mR
        omega
      have a9:Hid (x/2=R/2 ^ (t+1)/\∀j,j<t+1->R.testBit j=false):=Hd ⟨by rw[l.1,Nat.div_div_eq_div_mul,Nat.pow_succ],fun j C=>by
       by_cases he:j=t
       ·rw[he,J.out,hq];rfl
       ·exact l.2 j mR⟩
      have ah:¬x/2=0:=by omega
      clear l J a7 a2;go_wp2_with fail
      go_roundw
      case rel=>exact⟨t+1,x/2,mR,mY,mY,trivial,ah,a9⟩
      case measure=>simp[intOf];omega
     ·have a0:x%2=1:=by omega
      rw[a0,Int.natCast_one]at hand;have a8:Hid (EU s.n S i0=((k+t:Nat):Int)):=Hd (by
       have hT:=HT t;rw[J.out,decide_eq_true a0]at hT;have hS:S.testBit (k+t)=true:=by
        cases p:S.testBit (k+t)
        ·rw[p,Bool.and_false]at hT;cases hT
        ·rfl
       refine Om ?_ hS (by have:=I.1;omega) ?_
       ·by_cases p:k+t<s.n
        ·exact p
        ·rw[Py HH.fit mR]at hS;cases hS
       ·intro j o P
        by_cases C:j<k
        ·exact I.2 j o C
        ·have h3:=HT (j-k)
         rw[l.2 (j-k) mR,decide_eq_true (by
          by_cases p:j-k+k%64<64
          ·exact p
          ·exfalso
           have a5:=HT t;rw[J.out,decide_eq_true a0,decide_eq_false mR,Bool.false_and]at a5;cases a5),Bool.true_and,show k+(j-k)=j by omega]at h3
         exact h3.symm)
      clear l J;go_wp2_with fail
      go_ret;exact⟨by rw[a8.out];rfl,rfl⟩
  ·have HN:=Hd (LR (n:=s.n) (S:=S) (i:=i0) (fun j o P=>I.2 j o mR))
   go_wp2_with (go_at_call 219;refine U.mono ?_;rintro e w' ⟨rfl,rfl⟩)
   go_ret;exact⟨by rw[HN.out];rfl,rfl⟩
def CS{size:Nat}(h:w.ownsRow B e size v n xs):∃A c,v=nC A n c:=by
 rcases Bg h with⟨rfl,rfl⟩|⟨b,c,rfl,_⟩
 ·exact⟨nK,0,rfl⟩
 ·exact⟨_,c,rfl⟩
section
variable {P:Program} {ops:Array Oper} {Q:Exit->Act->nS->Prop} {md:Region.Mode} {S:nS->Prop} {z:Nat}
def EC(P:Program)(md:Region.Mode)(ops:Array Oper)(Q:Exit->Act->nS->Prop)(S:nS->Prop)(z:Nat):Nat->Array Bool->Act->nS->Prop
 | 0,listed,a,w=>Region.ready md ops listed=[]/\Q .normal a w
 | f+1,listed,a,w=>(Region.ready md ops listed=[]->Q .normal a w)/\∀i∈Region.ready md ops listed,wpOp P ops Q i (fun l j=>(i≠z->S j)/\EC P md ops Q S z f (listed.setIfInBounds i true) l j) a w
theorem N5:∀(f:Nat) (listed:Array Bool) (a:Act) (w:nS),EC P md ops Q S z f listed a w->wpAny P md ops Q f listed a w
 | 0,_,_,_,h=>h
 | f+1,_,_,_,h=>⟨h.1,fun i o=>wpOp_mono (fun j p l=>N5 f _ j p l.2) (h.2 i o)⟩
def CO{id:Nat}(z:Nat)(S:nS->Prop)(i:P.follows .mixedOrders=true)(h:EC P .any ops Q S z ops.size (Array.replicate ops.size false) a w.drew):(Code.region id ops true).wp P Q a w:=
 wp_region_any i (N5 _ _ _ _ h)
def kQ(hi:ops[i]?=nJ J)(a7:∀(j:Nat) (o:Oper) cs b,ops[j]?=nJ o->o.op ≠ .select cs b)(hQ:∀c a w,Q (.panic c) (a.put J.dst v) w->Q (.panic c) a w)(hz:Region.waitsFor md ops z i=true) :
  ∀(f:Nat) (listed:Array Bool) (a:Act) (w:nS),(∀j l,ops[j]?=nJ l->j≠i->listed.getD j true=false->(∀e∈l.after,Region.binds md e=true->e.on≠i)->J.apart ops l=true) ->
   i∈Region.ready md ops listed->YieldsIf P ops S J v a->S w->EC P md ops Q S z f (listed.setIfInBounds i true) (a.put J.dst v) w->EC P md ops Q S z (f+1) listed a w:=by
 obtain⟨oz,a6,ez,aa,a9,af⟩:=Region.waitsFor_spec hz;have ag:∀(listed:Array Bool) (j:Nat) (l:Oper),i∈Region.ready md ops listed->ops[j]?=nJ l->j∈Region.ready md ops listed->∀e∈l.after,Region.binds md e=true->e.on≠i:=fun listed j l p I C e he hb heq=>by
  obtain⟨_,ah,a5,a8⟩:=mem_ready.1 C;rw[I]at a5;cases a5
  have T:=a8 e he hb;rw[heq,getD_both (mem_ready.1 p).1]at T;cases T
 intro f;induction f with
 | zero=>
  intro listed a w _ p hy R H;refine⟨fun h=>(by rw[h]at p;cases p),fun j C=>?_⟩;by_cases t:j=i
  ·subst t;exact hy.wpOp hi R ⟨fun _=>R,H⟩
  ·have U:=ready_mono C t
   rw[H.1]at U;cases U
 | succ f ih=>
  intro listed a w a0 p hy R H;refine⟨fun h=>(by rw[h]at p;cases p),fun j C=>?_⟩;by_cases t:j=i
  ·subst t;exact hy.wpOp hi R ⟨fun _=>R,H⟩
  ·have T:=H.2 j (ready_mono C t)
   obtain⟨a2,l,I,_⟩:=mem_ready.1 C;have a4:=ag listed j l p I C;have ab:j≠z:=fun e=>by
    subst e;rw[I]at a6;cases a6
    exact a4 ez aa a9 af
   have U:=wpOp_putIf I (a0 j l I t a2 a4) (fun cs b=>a7 i J cs b hi) (fun cs b=>a7 j l cs b I) hQ hy T;refine wpOp_mono (fun a' w' h3=>⟨h3.2.1,ih (listed.setIfInBounds j true) a' w' (fun k ok hk ad a3 ae=>a0 k ok hk ad ?_ ae) (ready_mono p (Ne.symm t)) h3.1 (h3.2.1 ab) ?_⟩) U
   ·by_cases a1:j=k
    ·subst a1;exact a2
    ·rw[getD_set_ne true a1]at a3;exact a3
   ·rw[Array.setIfInBounds_comm _ _ t]
    exact h3.2.2
def JI(i:Nat){j:Oper}{l:List nU}(p:ops[i]?=nJ j)(T:Region.noSelect ops=true)(J:Region.free md ops listed i=true)(R:(Region.ready md ops listed).contains i=true)(hz:Region.waitsFor md ops z i=true)
  (t:∀c a w,Q (.panic c) (a.put j.dst v) w->Q (.panic c) a w) (U:YieldsIf P ops S j v {tmps:=l.toArray,defers:=o}) (C:S w) (I:j.dst=nJ d)
  (h:EC P md ops Q S z f (listed.setIfInBounds i true) {tmps:=(l.set d v).toArray,defers:=o} w):EC P md ops Q S z (f+1) listed {tmps:=l.toArray,defers:=o} w:=by
 refine kQ p (Region.noSelect_spec T) t hz f listed _ w (Region.free_spec p J) (by simpa using R) U C ?_;rw[I];simpa [Act.put] using h
def AG(i:Nat){j:Oper}{l:List nU}(t:S w)(h:EC P md ops Q S z f (listed.setIfInBounds i true) {tmps:=(l.set d v).toArray,defers:=o} w)
  (R:ops[i]?=nJ j:=by rfl) (U:Region.noSelect ops=true:=by kernel_rfl) (J:Region.free md ops listed i=true:=by kernel_rfl) (T:(Region.ready md ops listed).contains i=true:=by kernel_rfl) (hz:Region.waitsFor md ops z i=true:=by kernel_rfl)
  (p:∀c a w,Q (.panic c) (a.put j.dst v) w->Q (.panic c) a w:=by exact fun _ _ _ h=>h) (hy:YieldsIf P ops S j v {tmps:=l.toArray,defers:=o}:=by(refine Or.inl ⟨nB,?_⟩;intro w C;(try dsimp only at C);go_simp;try with_reducible rfl)) (I:j.dst=nJ d:=by rfl):EC P md ops Q S z (f+1) listed {tmps:=l.toArray,defers:=o} w:=
 JI i R U J T hz p hy t I h
def AD{i:Type}{x:i}{xs:List i}{y:i}:(x::xs).set (n+1) y=x::xs.set n y:=rfl
def AA{i:Type}{x:i}{xs:List i}{y:i}:(x::xs).set 0 y=y::xs:=rfl
structure Ml(l:List Nat):Prop
def mc{i:Nat}{r:List Nat}{j:Oper}{l:List nU}(m:Ml (i::r))(t:S w)(h:Ml r->EC P md ops Q S z f (listed.setIfInBounds i true) {tmps:=(l.set d v).toArray,defers:=o} w)
  (R:ops[i]?=nJ j:=by rfl) (U:Region.noSelect ops=true:=by kernel_rfl) (J:Region.free md ops listed i=true:=by kernel_rfl) (T:(Region.ready md ops listed).contains i=true:=by kernel_rfl) (hz:Region.waitsFor md ops z i=true:=by kernel_rfl)
  (p:∀c a w,Q (.panic c) (a.put j.dst v) w->Q (.panic c) a w:=by exact fun _ _ _ h=>h) (hy:YieldsIf P ops S j v {tmps:=l.toArray,defers:=o}:=by(refine Or.inl ⟨nB,?_⟩;intro w C;(try dsimp only at C);go_simp;try with_reducible rfl)) (I:j.dst=nJ d:=by rfl):EC P md ops Q S z (f+1) listed {tmps:=l.toArray,defers:=o} w:=
 JI i R U J T hz p hy t I (h ⟨⟩)
def FE(l:List Nat){L:List nU}{q:Prop}(i:S w)(h:q)
 (g:Ml l->S w->q->EC P md ops Q S z f listed {tmps:=L.toArray,defers:=j} w:=by(intro m i h;repeat (refine mc m i ?_;(try simp only[AD,AA]);clear m;intro m));exact h):EC P md ops Q S z f listed {tmps:=L.toArray,defers:=j} w:=g ⟨⟩ i h
def Be(i:Nat){o:Oper}(p:Region.ready md ops listed=[i])(J:ops[i]?=nJ o)(I:o.guard=nK)
  (h:∀K:Act->nS->Prop,Shut (∀a w,(i≠z->S w)->EC P md ops Q S z f (listed.setIfInBounds i true) a w->K a w)->o.wp P a w K Q):EC P md ops Q S z (f+1) listed a w:=by
 refine⟨fun h0=>(by rw[p]at h0;cases h0),fun j l=>?_⟩;rw[p,mS]at l;subst l;unfold wpOp;rw[J];simp only;rw[if_pos (by unfold Region.wanted;rw[I])];exact .inl (h _ fun a w t C=>⟨t,C⟩)
def Co(i:Nat){o:Oper}{l:List nU}(T:Region.ready md ops listed=[i])(R:ops[i]?=nJ o)(J:o.guard=nK)(I:o.dst=nJ d)
  (h:∀K:Act->nS->Prop,Shut (∀v w,(i≠z->S w)->EC P md ops Q S z f (listed.setIfInBounds i true) {tmps:=(l.set d v).toArray,defers:=j} w->K (({tmps:=l.toArray,defers:=j}:Act).put o.dst v) w)->o.wp P {tmps:=l.toArray,defers:=j} w K Q):EC P md ops Q S z (f+1) listed {tmps:=l.toArray,defers:=j} w:=by
 refine Be i T R J fun K C=>h K fun v w p t=>?_
 refine C _ _ p ?_;rw[I];simpa [Act.put] using t
theorem CI(i:Region.ready md ops listed=[])(h:Q .normal a w):∀f,EC P md ops Q S z f listed a w
 | 0=>⟨i,h⟩
 | _+1=>⟨fun _=>h,by rw[i];simp⟩
end
variable{l:List nU}
namespace Aj
variable {X Y:Nat->Prop} {a b c:nS}
def put(h:Aj X a b){r:Nat}(i:a.heap.size<=r\/X r)(o:Obj):Aj X a (b.putObj r o):=
 ⟨h.os,h.tape,h.output,by simpa using h.size,fun k l j=>(World.putObj_heap_other (by rintro rfl;rcases i with i|i;omega;exact j i)).trans (h.block k l j)⟩
end Aj
def Bm(A:Nat->Prop)(w w':nS):Prop:=∀b,A b->w'.heap[b]?=w.heap[b]?
def Bm.refl(A:Nat->Prop)(w:nS):Bm A w w:=fun _ _=>rfl
def Bm.trans{a b c:nS}(h:Bm A a b)(k:Bm A b c):Bm A a c:=fun i j=>(k i j).trans (h i j)
def Jk{l:Type}(B:Nat)(J:l->(Nat->Prop)->nS->Prop):Prop:=
 ∀s A i W j,J s A W->Aj (fun b=>B<=b/\A b) W j->(∀b,i b->A b\/W.heap.size<=b)->J s i j
def Seq{t:Type}(P:Program)(gf:Nat)(lb:Array nU)(encs:t->Array nU)(xs:List t)(o:Nat->Prop)(w:nS):Prop:=
 ∀(l:Nat) (J:List t->(Nat->Prop)->nS->Prop) (p:Unit->(Nat->Prop)->nS->Prop) (W:nS),Aj (fun _=>False) w W->Jk W.heap.size J->Jk W.heap.size p ->
  (∀pre x A j,J pre A j->pre++[x] <+: xs->(∀b,o b->A b)->(∀b,A b->b<j.heap.size)->YieldAt Fence.wide 0 P l (encs x) j fun e i=>j.heap.size<=i.heap.size/\Bm A j i/\((e=nP (nI true)/\J (pre++[x]) A i)\/(e=nP (nI false)/\p () A i))) ->
  J [] o W ->
  CallsIn Fence.wide 0 P gf (#[.func (.yield l) #[] #[]]++lb) W fun e i=>(∃v,e=nP v)/\∃A:Nat->Prop,(∀b,o b->A b)/\(∀b,A b->b<i.heap.size)/\(J xs A i\/p () A i)
def Yd{l:Type}(I:List l->(Nat->Prop)->nS->Prop)(j:Code->(Nat->Prop)->nS->Prop)(xs:List l)(A:Nat->Prop)(W:nS):Exit->Act->nS->Prop
 | .normal,_,i=>W.heap.size<=i.heap.size/\Bm A W i/\I xs A i
 | .ret,_,i=>W.heap.size<=i.heap.size/\Bm A W i/\j .ret A i
 | .exit id,_,i=>W.heap.size<=i.heap.size/\Bm A W i/\j (.exit id) A i
 | .goto t,_,i=>W.heap.size<=i.heap.size/\Bm A W i/\j (.goto t) A i
 | .panic _,_,_=>False
 | .outgrown,_,_=>False
def Jk.step{j:Type}{J:j->(Nat->Prop)->nS->Prop}(h:Jk B J){s:j}{i:nS}(o:J s A W)(l:Aj (fun b=>B<=b/\A b) W i):J s A i:=h s A A W i o l (fun _=>.inl)
def UH{j:Type}(P:Program)(encs:j->Array nU)(U:Array Tmp)(assign T:Code)(tmps:Array nU)(xs:List j)(C:Nat->Prop)(B:Nat)(I:List j->(Nat->Prop)->nS->Prop)(J:Code->(Nat->Prop)->nS->Prop):Prop:=
 ∀(l:Nat) (pre:List j) (x:j) (A:Nat->Prop) (W:nS),pre++[x] <+: xs->B<=l->l<W.heap.size->A l->(∀b,C b->A b)->(∀b,A b->b<W.heap.size)->I pre A W ->
  assign.wpIn (Fence.wide.inRound l) 0 P (Exit.then (fun R o=>W.heap.size<=o.heap.size/\Bm A W o/\∀i,Aj (·=l) o i->o.heap.size=i.heap.size->(∃r,i.heap[l]?=nJ (.loop r)) ->
   T.wpIn (Fence.wide.inRound l) 0 P (Yd I J (pre++[x]) A i) R i) (fun _ _ _=>False))
   {tmps:=(U.zip (encs x)).foldl (fun t (p,v)=>t.setIfInBounds p v) tmps,defers:=[]} W
section
variable {P:Program}
def rounds{encs:α->Array nU}{assign body:Code}{tmps:Array nU}{xs:List α}{A₀:Nat->Prop}{a2:List α->(Nat->Prop)->nS->Prop}{Ix:Code->(Nat->Prop)->nS->Prop}
  (hI:Jk B a2) (hIx:∀c,Jk B (fun(_:Unit)=>Ix c)) (hr:UH P encs ps assign body tmps xs A₀ B a2 Ix) (aj:∀x,(encs x).size=ps.size) {fn:FuncId} {l:Nat} (hl:B<=l) {X:Nat->Prop} (hX:X l)
  (j:LoopState->Option Code->Loop) (a6:j=fun st pe=>{state:=st,pending:=pe,fn,tmps,params:=ps,assign,body,defers:=D})
  {pre:List α} {x:α}   (hi:a2 pre (fun b=>A b\/X b) W) (a7:W.heap[l]?=nJ (.loop (j .ready nK))) (hA:¬A l) (hp:pre++[x] <+: xs) (ak:∀b,A₀ b->A b) (ag:∀b,A b->b<W.heap.size) (ah:∀b,X b->b<W.heap.size) :
  YieldAt Fence.wide 0 P l (encs x) W fun e J=>W.heap.size<=J.heap.size/\Bm A W J/\(∀b,X b->b≠l->J.heap[b]?=W.heap[b]?) /\
   (
    (e=nP (nI true)/\a2 (pre++[x]) (fun b=>A b\/X b) J/\J.heap[l]?=nJ (.loop (j .ready nK))) \/
    (e=nP (nI false)/\∃c,Ix c (fun b=>A b\/X b) J/\J.heap[l]?=nJ (.loop (j .done (nJ c))))):=by
 have af:l<W.heap.size:=(aG.1 a7).1;have hy:=run_yield (P:=P) (args:=encs x) a7 (by rw[a6];exact aj x);rw[a6]at hy;refine⟨fn,_,assign,body,hy,roundIn_of_wpIn trivial (wpIn_mono (hr l pre x _ W hp hl af (.inr hX) (fun b p=>.inl (ak b p)) (fun b p=>p.elim (ag b) (ah b)) hi) ?_)⟩;intro e a' I h;cases e with
 | normal=>
  obtain⟨al,ad,p⟩:=h;have ab:I.heap[l]?=nJ (.loop (j .ready nK)):=(ad l (.inr hX)).trans a7;have ai:l<I.heap.size:=(aG.1 ab).1;refine⟨_,run_beginRound ab (by rw[a6]),?_⟩;have a9:(I.putObj l (.loop {j .ready nK with state:=.busy})).heap[l]?=nJ (.loop {j .ready nK with state:=.busy}):=World.putObj_heap_same ai;have ae:Aj (·=l) I (I.putObj l (.loop {j .ready nK with state:=.busy})):=(Aj.refl (·=l) I).put (r:=l) (.inr rfl) _;refine wpIn_mono (p _ ae mV ⟨_,a9⟩) ?_;have a4:∀(i:Option Code) (o:nS),(I.putObj l (.loop {j .ready nK with state:=.busy})).heap.size<=o.heap.size->Bm (fun b=>A b\/X b) (I.putObj l (.loop {j .ready nK with state:=.busy})) o ->
     (Instr.endRound l i).run P o=.ok (nI i.isNone) (o.putObj l (.loop (j (if i.isNone then .ready else .done) i))) /\
     W.heap.size<=(o.putObj l (.loop (j (if i.isNone then .ready else .done) i))).heap.size /\
     Bm A W (o.putObj l (.loop (j (if i.isNone then .ready else .done) i))) /\
     (∀b,X b->b≠l->(o.putObj l (.loop (j (if i.isNone then .ready else .done) i))).heap[b]?=W.heap[b]?) /\
     (o.putObj l (.loop (j (if i.isNone then .ready else .done) i))).heap[l]?=nJ (.loop (j (if i.isNone then .ready else .done) i)) /\
     Aj (fun b=>B<=b/\(A b\/X b)) o (o.putObj l (.loop (j (if i.isNone then .ready else .done) i))):=fun i o C t=>by
   have aa:o.heap[l]?=nJ (.loop {j .ready nK with state:=.busy}):=(t l (.inr hX)).trans a9;have h1:=run_endRound (P:=P) i aa;have hx:∀b,(A b\/X b)->b≠l->(o.putObj l (.loop (j (if i.isNone then .ready else .done) i))).heap[b]?=W.heap[b]?:=fun b p a5=>(World.putObj_heap_other a5).trans ((t b p).trans ((World.putObj_heap_other a5).trans (ad b p)))
   refine⟨?_,?_,fun b p=>hx b (.inl p) (fun e=>hA (e▸p)),fun b p a5=>hx b (.inr p) a5,World.putObj_heap_same (aG.1 aa).1,(Aj.refl _ _).put (.inr ⟨hl,.inr hX⟩) _⟩
   · rw[a6]at h1 ⊢;exact h1
   · rw[World.putObj_size]at C ⊢;omega
  intro e a3 o a1;cases e with
  | normal=>obtain⟨C,t,a0⟩:=a1;obtain⟨R,T,U,f4,f5,f6⟩:=a4 nK o C t;exact⟨_,_,R,T,U,f4,.inl ⟨rfl,hI.step a0 f6,f5⟩⟩
  | ret=>obtain⟨C,t,a0⟩:=a1;obtain⟨R,T,U,f4,f5,f6⟩:=a4 (nJ .ret) o C t;exact⟨_,_,R,T,U,f4,.inr ⟨rfl,.ret,(hIx _).step (s:=()) a0 f6,f5⟩⟩
  | exit id=>obtain⟨C,t,a0⟩:=a1;obtain⟨R,T,U,f4,f5,f6⟩:=a4 (nJ (.exit id)) o C t;exact⟨_,_,R,T,U,f4,.inr ⟨rfl,.exit id,(hIx _).step (s:=()) a0 f6,f5⟩⟩
  | goto a8=>obtain⟨C,t,a0⟩:=a1;obtain⟨R,T,U,f4,f5,f6⟩:=a4 (nJ (.goto a8)) o C t;exact⟨_,_,R,T,U,f4,.inr ⟨rfl,.goto a8,(hIx _).step (s:=()) a0 f6,f5⟩⟩
  | panic ch=>exact a1.elim
  | outgrown=>exact a1.elim
 | ret=>exact h.elim
 | exit id=>exact h.elim
 | goto a8=>exact h.elim
 | panic ch=>exact h.elim
 | outgrown=>exact h.elim
def Lp{g:Operand}{assign body:Code}{Q:Exit->Act->nS->Prop}{a:Act}{gf:Nat}{lb:Array nU}(hg:a.eval g=.func (.func gf) #[] lb)
  (eg:∀args w,(callFunc gf args).run P w=.ok (.enter gf args) w) {encs:α->Array nU} {xs:List α} {J:Nat->Prop} (af:Seq P gf lb encs xs J w) (a4:∀b,J b->b<w.heap.size) (ae:∀x,(encs x).size=ps.size)
  (a0:List α->(Nat->Prop)->nS->Prop) (Ix:Code->(Nat->Prop)->nS->Prop) (hI:Jk w.heap.size a0) (hIx:∀c,Jk w.heap.size (fun(_:Unit)=>Ix c)) (h0:a0 [] J w)
  (hround:UH P encs ps assign body a.tmps xs J w.heap.size a0 Ix)
  (hdone:∀(D:Nat) (A:Nat->Prop) (W:nS),w.heap.size<=D->A D->(∀b,J b->A b)->(∀b,A b->b<W.heap.size)->a0 xs A W->W.heap[D]?=nJ (.deferred (nJ []))->Q .normal {a with defers:={target:=.collected D,args:=#[]}::a.defers} W)
  (hstop:∀(D:Nat) (c:Code) (A:Nat->Prop) (W:nS),w.heap.size<=D->A D->(∀b,J b->A b)->(∀b,A b->b<W.heap.size)->Ix c A W->W.heap[D]?=nJ (.deferred (nJ []))->c.wpIn Fence.wide 0 P Q {a with defers:={target:=.collected D,args:=#[]}::a.defers} W) :
  (Code.rangeFunc g ps assign body).wpIn Fence.wide 0 P Q a w:=by
 refine wpIn_rangeFunc ?_;intro fn ak;rw[show Fence.wide.round=nK from rfl];obtain⟨I,U⟩:∃I:LoopState->Option Code->Loop,I=fun st pe=>{state:=st,pending:=pe,fn,tmps:=a.tmps,params:=ps,assign,body,defers:=w.heap.size}:=⟨_,rfl⟩
 obtain⟨o,a1⟩:∃o,(w.alloc (.deferred (nJ []))).alloc (.loop (I .ready nK))=o:=⟨_,rfl⟩
 have ab:o.heap[w.heap.size+1]?=nJ (.loop (I .ready nK)):=by rw[<-a1];have:=World.alloc_heap_new (w.alloc (.deferred (nJ []))) (.loop (I .ready nK));rwa [World.size_alloc]at this
 have aa:o.heap[w.heap.size]?=nJ (.deferred (nJ [])):=by rw[<-a1];exact(Below.heap_alloc _ _ _ mV).trans (World.alloc_heap_new w _)
 have a5:∀X,Aj X w o:=fun X=>by rw[<-a1];exact((Aj.refl X w).alloc _).alloc _
 have al:o.heap.size=w.heap.size+2:=by rw[<-a1];simp
 refine⟨w.heap.size+1,[{target:=.collected w.heap.size,args:=#[]}],o,{target:=.fn (.func gf) lb,args:=#[.func (.yield (w.heap.size+1)) #[] #[]]},o,gf,
  #[.func (.yield (w.heap.size+1)) #[] #[]]++lb,o,?_,?_,?_,?_,(fun h=>(by cases h)),?_⟩
 ·rw[<-a1,U];exact run_enterLoop_outer _ _ _ _ _
 ·simp only[resolve,hg]
  simp[go_sem]
 ·intro f' aj;trivial
 ·simp[invoke,go_sem,eg]
 ·have hX:∀b,(b=w.heap.size\/b=w.heap.size+1)->w.heap.size<=b/\b<o.heap.size:=fun b i=>by omega
  refine(af (w.heap.size+1)
   (fun pre A W=>a0 pre (fun b=>A b\/(b=w.heap.size\/b=w.heap.size+1)) W/\W.heap[w.heap.size+1]?=nJ (.loop (I .ready nK))/\W.heap[w.heap.size]?=nJ (.deferred (nJ []))/\¬A w.heap.size/\¬A (w.heap.size+1))
   (fun _ A W=>∃c,Ix c (fun b=>A b\/(b=w.heap.size\/b=w.heap.size+1)) W/\W.heap[w.heap.size+1]?=nJ (.loop (I .done (nJ c)))/\W.heap[w.heap.size]?=nJ (.deferred (nJ []))/\¬A w.heap.size/\¬A (w.heap.size+1))
   o (a5 _) ?_ ?_ ?_ ?_).mono ?_
  ·rintro s A A' a2 U' ⟨C,l,j,t,p⟩ T R
   have u1:=(aG.1 l).1;have u2:=(aG.1 j).1;refine⟨hI s _ _ a2 U' C (T.mono fun ah hi=>⟨mR,.inl hi.2⟩) (fun b i=>?_),(T.block _ u1 (fun h=>p h.2)).trans l,(T.block _ u2 (fun h=>t h.2)).trans j,fun h=>?_,fun h=>?_⟩
   ·rcases i with i|i
    ·exact(R b i).elim (fun h=>.inl (.inl h)) .inr
    ·exact .inl (.inr i)
   ·exact(R _ h).elim t mR
   ·exact(R _ h).elim p mR
  ·rintro s A A' a2 U' ⟨c,C,l,j,t,p⟩ T R
   have u1:=(aG.1 l).1;have u2:=(aG.1 j).1;refine⟨c,hIx c s _ _ a2 U' C (T.mono fun ah hi=>⟨mR,.inl hi.2⟩) (fun b i=>?_),(T.block _ u1 (fun h=>p h.2)).trans l,(T.block _ u2 (fun h=>t h.2)).trans j,fun h=>?_,fun h=>?_⟩
   ·rcases i with i|i
    ·exact(R b i).elim (fun h=>.inl (.inl h)) .inr
    ·exact .inl (.inr i)
   ·exact(R _ h).elim t mR
   ·exact(R _ h).elim p mR
  ·rintro pre x A a2 ⟨C,l,j,t,p⟩ ad ag a3
   have u1:=(aG.1 l).1;have u2:=(aG.1 j).1;obtain⟨a9,ai,a7,a8,hy,hR⟩:=rounds (P:=P) (D:=w.heap.size) hI hIx hround ae (l:=w.heap.size+1) mR (X:=fun b=>b=w.heap.size\/b=w.heap.size+1) (.inr rfl) I U C l p ad ag a3 (fun b i=>by rcases i with rfl|rfl<;>assumption);refine⟨a9,ai,a7,a8,hy,hR.mono ?_⟩;rintro e U' ⟨g1,g2,g3,g4⟩;refine⟨g1,g2,?_⟩;rcases g4 with⟨rfl,k1,k2⟩|⟨rfl,c,k1,k2⟩
   ·exact .inl ⟨rfl,k1,k2,(g3 _ (.inl rfl) mR).trans j,t,p⟩
   ·exact .inr ⟨rfl,c,k1,k2,(g3 _ (.inl rfl) mR).trans j,t,p⟩
  ·refine⟨hI [] J _ w o h0 (a5 _) (fun b i=>?_),ab,aa,fun h=>?_,fun h=>?_⟩
   ·rcases i with i|i
    ·exact .inl i
    ·exact .inr (hX b i).1
   ·have:=a4 _ h;omega
   ·have:=a4 _ h;omega
  ·rintro e W2 ⟨⟨v,rfl⟩,A,a6,a3,(⟨C,l,j,t,p⟩|⟨c,C,l,j,t,p⟩)⟩
   ·refine⟨nK,_,by have:=run_endLoop (P:=P) l (by rw[U];simp);rw[U]at this;exact this,hdone _ _ _ (AF _) (.inr (.inl rfl)) (fun b i=>.inl (a6 b i)) (fun b i=>by have u1:=(aG.1 l).1;have u2:=(aG.1 j).1;rw[World.putObj_size];exact i.elim (a3 b) (fun i=>by rcases i with rfl|rfl<;>assumption)) (hI.step C ((Aj.refl _ _).put (.inr ⟨mR,.inr (.inr rfl)⟩) _)) ((World.putObj_heap_other mR).trans j)⟩
   ·refine⟨nJ c,_,by have:=run_endLoop (P:=P) l (by rw[U];simp);rw[U]at this;exact this,hstop _ c _ _ (AF _) (.inr (.inl rfl)) (fun b i=>.inl (a6 b i)) (fun b i=>by have u1:=(aG.1 l).1;have u2:=(aG.1 j).1;rw[World.putObj_size];exact i.elim (a3 b) (fun i=>by rcases i with rfl|rfl<;>assumption)) ((hIx c).step (s:=()) C ((Aj.refl _ _).put (.inr ⟨mR,.inr (.inr rfl)⟩) _)) ((World.putObj_heap_other mR).trans j)⟩
end
section
variable {P:Program} {ops:Array Oper} {Q:Exit->Act->nS->Prop} {md:Region.Mode} {S:nS->Prop} {Z:Nat->Bool}
def Dk(P:Program)(md:Region.Mode)(ops:Array Oper)(Q:Exit->Act->nS->Prop)(S:nS->Prop)(Z:Nat->Bool):Nat->Array Bool->Act->nS->Prop
 | 0,listed,a,w=>Region.ready md ops listed=[]/\Q .normal a w
 | f+1,listed,a,w=>(Region.ready md ops listed=[]->Q .normal a w)/\∀i∈Region.ready md ops listed,wpOp P ops Q i (fun l j=>(Z i=false->S w->S j)/\Dk P md ops Q S Z f (listed.setIfInBounds i true) l j) a w
theorem O9:∀(f:Nat) (listed:Array Bool) (a:Act) (w:nS),Dk P md ops Q S Z f listed a w->wpAny P md ops Q f listed a w
 | 0,_,_,_,h=>h
 | f+1,_,_,_,h=>⟨h.1,fun i o=>wpOp_mono (fun j p l=>O9 f _ j p l.2) (h.2 i o)⟩
def fQ{id:Nat}(Z:Nat->Bool)(S:nS->Prop)(i:P.follows .mixedOrders=true)(h:Dk P .any ops Q S Z ops.size (Array.replicate ops.size false) a w.drew):(Code.region id ops true).wp P Q a w:=
 wp_region_any i (O9 _ _ _ _ h)
def cG{T:Oper}(hi:ops[i]?=nJ T)(a7:∀(j:Nat) (o:Oper) cs b,ops[j]?=nJ o->o.op ≠ .select cs b)(hQ:∀c a w,Q (.panic c) (a.put T.dst v) w->Q (.panic c) a w)(hz:((List.range ops.size).all fun z=>!Z z||Region.waitsFor md ops z i)=true) :
  ∀(f:Nat) (listed:Array Bool) (a:Act) (w:nS),(∀j l,ops[j]?=nJ l->j≠i->listed.getD j true=false->(∀e∈l.after,Region.binds md e=true->e.on≠i)->T.apart ops l=true) ->
   i∈Region.ready md ops listed->YieldsIf P ops S T v a->S w->Dk P md ops Q S Z f (listed.setIfInBounds i true) (a.put T.dst v) w->Dk P md ops Q S Z (f+1) listed a w:=by
 have ah:∀(listed:Array Bool) (j:Nat) (l:Oper),i∈Region.ready md ops listed->ops[j]?=nJ l->j∈Region.ready md ops listed->∀e∈l.after,Region.binds md e=true->e.on≠i:=fun listed j l p I J e he hb heq=>by
  obtain⟨_,ai,a5,a8⟩:=mem_ready.1 J;rw[I]at a5;cases a5
  have t:=a8 e he hb;rw[heq,getD_both (mem_ready.1 p).1]at t;cases t
 intro f;induction f with
 | zero=>
  intro listed a w _ p hy R H;refine⟨fun h=>(by rw[h]at p;cases p),fun j J=>?_⟩;by_cases C:j=i
  ·subst C;exact hy.wpOp hi R ⟨fun _ _=>R,H⟩
  ·have U:=ready_mono J C
   rw[H.1]at U;cases U
 | succ f ih=>
  intro listed a w a0 p hy R H;refine⟨fun h=>(by rw[h]at p;cases p),fun j J=>?_⟩;by_cases C:j=i
  ·subst C;exact hy.wpOp hi R ⟨fun _ _=>R,H⟩
  ·have t:=H.2 j (ready_mono J C)
   obtain⟨a2,l,I,_⟩:=mem_ready.1 J;have a4:=ah listed j l p I J;have ad:Z j=false:=by
    cases hZ:Z j with
    | false=>rfl
    | true=>
     have ab:j<ops.size:=(aG.1 I).1;have t:=List.all_eq_true.1 hz j (List.mem_range.2 ab);rw[hZ]at t;simp only[Bool.not_true,Bool.false_or]at t;obtain⟨oz,a6,ez,aa,a9,ag⟩:=Region.waitsFor_spec t;rw[I]at a6;cases a6
     exact absurd ag (a4 ez aa a9)
   have U:=wpOp_putIf I (a0 j l I C a2 a4) (fun cs b=>a7 i T cs b hi) (fun cs b=>a7 j l cs b I) hQ hy t;refine wpOp_mono (fun a' w' h3=>⟨h3.2.1,ih (listed.setIfInBounds j true) a' w' (fun k ok hk ae a3 af=>a0 k ok hk ae ?_ af) (ready_mono p (Ne.symm C)) h3.1 (h3.2.1 ad R) ?_⟩) U
   ·by_cases a1:j=k
    ·subst a1;exact a2
    ·rw[getD_set_ne true a1]at a3;exact a3
   ·rw[Array.setIfInBounds_comm _ _ C]
    exact h3.2.2
def KQ(i:Nat){j:Oper}(p:ops[i]?=nJ j)(T:Region.noSelect ops=true)(J:Region.free md ops listed i=true)(R:(Region.ready md ops listed).contains i=true)(hz:((List.range ops.size).all fun z=>!Z z||Region.waitsFor md ops z i)=true)
  (t:∀c a w,Q (.panic c) (a.put j.dst v) w->Q (.panic c) a w) (U:YieldsIf P ops S j v {tmps:=l.toArray,defers:=o}) (C:S w) (I:j.dst=nJ d)
  (h:Dk P md ops Q S Z f (listed.setIfInBounds i true) {tmps:=(l.set d v).toArray,defers:=o} w):Dk P md ops Q S Z (f+1) listed {tmps:=l.toArray,defers:=o} w:=by
 refine cG p (Region.noSelect_spec T) t hz f listed _ w (Region.free_spec p J) (by simpa using R) U C ?_;rw[I];simpa [Act.put] using h
def Zm(hi:ops[i]?=nJ J)(a5:∀(j:Nat) (o:Oper) cs b,ops[j]?=nJ o->o.op ≠ .select cs b)(hQ:∀c a w,Q (.panic c) (a.put J.dst v) w->Q (.panic c) a w) :
  ∀(f:Nat) (listed:Array Bool) (a:Act) (w:nS),(∀j l,ops[j]?=nJ l->j≠i->listed.getD j true=false->(∀e∈l.after,Region.binds md e=true->e.on≠i)->J.apart ops l=true) ->
   i∈Region.ready md ops listed->YieldsIf P ops (fun _=>True) J v a->Dk P md ops Q S Z f (listed.setIfInBounds i true) (a.put J.dst v) w->Dk P md ops Q S Z (f+1) listed a w:=by
 have aa:∀(listed:Array Bool) (j:Nat) (l:Oper),i∈Region.ready md ops listed->ops[j]?=nJ l->j∈Region.ready md ops listed->∀e∈l.after,Region.binds md e=true->e.on≠i:=fun listed j l p I C e he hb heq=>by
  obtain⟨_,ab,a4,a6⟩:=mem_ready.1 C;rw[I]at a4;cases a4
  have R:=a6 e he hb;rw[heq,getD_both (mem_ready.1 p).1]at R;cases R
 intro f;induction f with
 | zero=>
  intro listed a w _ p U H;refine⟨fun h=>(by rw[h]at p;cases p),fun j C=>?_⟩;by_cases t:j=i
  ·subst t;exact U.wpOp hi trivial ⟨fun _ h=>h,H⟩
  ·have T:=ready_mono C t
   rw[H.1]at T;cases T
 | succ f ih=>
  intro listed a w a0 p U H;refine⟨fun h=>(by rw[h]at p;cases p),fun j C=>?_⟩;by_cases t:j=i
  ·subst t;exact U.wpOp hi trivial ⟨fun _ h=>h,H⟩
  ·have R:=H.2 j (ready_mono C t)
   obtain⟨a2,l,I,_⟩:=mem_ready.1 C;have a9:=aa listed j l p I C;have T:=wpOp_putIf I (a0 j l I t a2 a9) (fun cs b=>a5 i J cs b hi) (fun cs b=>a5 j l cs b I) hQ U R;refine wpOp_mono (fun a' w' h3=>⟨h3.2.1,ih (listed.setIfInBounds j true) a' w' (fun k ok hk a7 a3 a8=>a0 k ok hk a7 ?_ a8) (ready_mono p (Ne.symm t)) h3.1 ?_⟩) T
   ·by_cases a1:j=k
    ·subst a1;exact a2
    ·rw[getD_set_ne true a1]at a3;exact a3
   ·rw[Array.setIfInBounds_comm _ _ t]
    exact h3.2.2
def MY(i:Nat){j:Oper}(p:ops[i]?=nJ j)(R:Region.noSelect ops=true)(I:Region.free md ops listed i=true)(J:(Region.ready md ops listed).contains i=true)
  (t:∀c a w,Q (.panic c) (a.put j.dst v) w->Q (.panic c) a w) (T:YieldsIf P ops (fun _=>True) j v {tmps:=l.toArray,defers:=o}) (C:j.dst=nJ d)
  (h:Dk P md ops Q S Z f (listed.setIfInBounds i true) {tmps:=(l.set d v).toArray,defers:=o} w):Dk P md ops Q S Z (f+1) listed {tmps:=l.toArray,defers:=o} w:=by
 refine Zm p (Region.noSelect_spec R) t f listed _ w (Region.free_spec p I) (by simpa using J) T ?_;rw[C];simpa [Act.put] using h
def Ga(i:Nat){o:Oper}(p:Region.ready md ops listed=[i])(J:ops[i]?=nJ o)(I:o.guard=nK)
  (h:∀K:Act->nS->Prop,Shut (∀a w',(Z i=false->S w->S w')->Dk P md ops Q S Z f (listed.setIfInBounds i true) a w'->K a w')->o.wp P a w K Q):Dk P md ops Q S Z (f+1) listed a w:=by
 refine⟨fun h0=>(by rw[p]at h0;cases h0),fun j l=>?_⟩;rw[p,mS]at l;subst l;unfold wpOp;rw[J];simp only;rw[if_pos (by unfold Region.wanted;rw[I])];exact .inl (h _ fun a w t C=>⟨t,C⟩)
def JP(i:Nat){o:Oper}(T:Region.ready md ops listed=[i])(R:ops[i]?=nJ o)(J:o.guard=nK)(I:o.dst=nJ d)
  (h:∀K:Act->nS->Prop,Shut (∀v w',(Z i=false->S w->S w')->Dk P md ops Q S Z f (listed.setIfInBounds i true) {tmps:=(l.set d v).toArray,defers:=j} w'->K (({tmps:=l.toArray,defers:=j}:Act).put o.dst v) w')->o.wp P {tmps:=l.toArray,defers:=j} w K Q):Dk P md ops Q S Z (f+1) listed {tmps:=l.toArray,defers:=j} w:=by
 refine Ga i T R J fun K C=>h K fun v w p t=>?_
 refine C _ _ p ?_;rw[I];simpa [Act.put] using t
def T7(i j:Nat)(p:Region.ready md ops listed=[i,j])(t:wpOp P ops Q i (fun o w'=>(Z i=false->S w->S w')/\Dk P md ops Q S Z f (listed.setIfInBounds i true) o w') a w)
  (C:wpOp P ops Q j (fun o w'=>(Z j=false->S w->S w')/\Dk P md ops Q S Z f (listed.setIfInBounds j true) o w') a w):Dk P md ops Q S Z (f+1) listed a w:=by
 refine⟨fun h0=>(by rw[p]at h0;cases h0),fun k l=>?_⟩;rw[p]at l;rcases List.mem_cons.1 l with rfl|l
 ·exact t
 ·rw[mS]at l
  subst l;exact C
def ME(i:Nat){o:Oper}(R:ops[i]?=nJ o)(J:o.guard=nK)(I:o.dst=nJ d)
  (h:∀K:Act->nS->Prop,Shut (∀v w',(Z i=false->S w->S w')->Dk P md ops Q S Z f (listed.setIfInBounds i true) {tmps:=(l.set d v).toArray,defers:=j} w'->K (({tmps:=l.toArray,defers:=j}:Act).put o.dst v) w')->o.wp P {tmps:=l.toArray,defers:=j} w K Q) :
  wpOp P ops Q i (fun p w'=>(Z i=false->S w->S w')/\Dk P md ops Q S Z f (listed.setIfInBounds i true) p w') {tmps:=l.toArray,defers:=j} w:=by
 unfold wpOp;rw[R];simp only;rw[if_pos (by unfold Region.wanted;rw[J])];refine .inl (h _ fun v w' t C=>?_);rw[I];exact⟨t,by simpa [Act.put] using C⟩
theorem LW(i:Region.ready md ops listed=[])(h:Q .normal a w):∀f,Dk P md ops Q S Z f listed a w
 | 0=>⟨i,h⟩
 | _+1=>⟨fun _=>h,by rw[i];simp⟩
end
section
set_option maxRecDepth 1000000
def Y1(f:Func):List UInt8:=match f.body with|some (.seq _ (.seq (.region _ o _) _))=>(match o[0]?.map Oper.op with|some (.call c)=>(match c.args[0]? with|some (Operand.const (Value.string s))=>s.data.toList|_=>[])|_=>[])|_=>[]
noncomputable def FM:List UInt8:=Y1 Tryz.f17
def OU(g:PG):Bool:=g.T.length==38&&(g.T++g.N)[17]?==nJ [39,60,60,45,39]&&(g.T++g.N)[g.s-1]?==nJ [117,110,105,116]&&decide (1<=g.s)&&decide (g.s<=g.T.length+g.N.length)
def Vm:(match Ea FM with | .ok g=>OU g | .error _=>false)=true:=by decide +kernel
theorem Sc:∃g,Ea FM=.ok g/\OU g=true:=by
 have h:=Vm;cases i:Ea FM with
 | error e=>rw[i]at h;cases h
 | ok g=>rw[i]at h;exact⟨g,rfl,h⟩
end
def Ma:List (List UInt8):=[[],[38,38],[124,124],[59,59],[59],[38],[124],[40],[41],[60],[62],[62,62],[60,60],[60,60,45],[60,38],[62,38],[60,62],[62,124]]
def EE:List (List UInt8):=[[105,102],[116,104,101,110],[101,108,115,101],[101,108,105,102],[102,105],[100,111],[100,111,110,101],[99,97,115,101],[101,115,97,99],[119,104,105,108,101],[117,110,116,105,108],[102,111,114],[123],[125],[33],[105,110]]
def bs(l:List UInt8):ByteArray:=⟨l.toArray⟩
def Ip(w:nS):Prop:=(∀k (h:k<Ma.length),nQ w (1,k)=nJ (nH (bs Ma[k])))/\(∀k (h:k<EE.length),nQ w (0,k)=nJ (nH (bs EE[k])))
def Ip.later(h:Ip w)(j:Below w w w'):Ip w':=
 ⟨fun k i=>(j.cell (p:=⟨1,k,nK⟩) (World.block_lt_of_cell? w _ (h.1 k i))).trans (h.1 k i),fun k i=>(j.cell (p:=⟨0,k,nK⟩) (World.block_lt_of_cell? w _ (h.2 k i))).trans (h.2 k i)⟩
def JN(s:ByteArray):Int:=if EE.findIdx (fun l=>(bs l).toList==s.toList)<16 then 23+(EE.findIdx (fun l=>(bs l).toList==s.toList):Nat) else 0
def Zv(s:ByteArray)(h:Ip w):() 28 #[nH s] w fun e w'=>e=nP (nE nM (JN s))/\w=w':=by
 have T:=Hd h.2;clear h;go_enter Tryz.func28,Tryz.ntmps28
 go_wp2
 go_loop [4] (fun i=>∃k:Nat,k<=16/\i=nE nM k/\Hid (∀j (o:j<EE.length),j<k->((bs EE[j]).toList==s.toList)=false)) (fun i=>16-(intOf i).toNat)
 case atStart=>exact⟨0,mR,rfl,Hd (fun j o h=>absurd h (Nat.not_lt_zero _))⟩
 case round=>
  obtain⟨k,hk,rfl,t⟩:=hrel;by_cases R:k<16
  ·have P:k<EE.length:=R
   have hc:=T k P;cases J:((bs EE[k]).toList==s.toList) with
   | true=>
    have p:Hid (JN s=23+(k:Int)):=Hd (by
     have C:EE.findIdx (fun l=>(bs l).toList==s.toList)=k:=by rw[List.findIdx_eq P];exact⟨J,fun j o=>t j mR o⟩
     unfold JN;rw[C,if_pos R])
    generalize bs EE[k]=a0 at *;go_wp2;go_ret;rw[p.out];exact⟨rfl,rfl⟩
   | false=>
    have p:Hid (∀j (o:j<EE.length),j<k+1->((bs EE[j]).toList==s.toList)=false):=Hd (fun j o h=>by
     rcases Nat.lt_or_ge j k with I|I
     ·exact t j o I
     ·obtain rfl:j=k:=by omega
      exact J)
    generalize bs EE[k]=a0 at *;go_wp2
    go_round
    case rel=>exact⟨k+1,mR,mY,p⟩
    case measure=>simp[intOf];omega
  ·have p:Hid (JN s=0):=Hd (by
    have C:EE.findIdx (fun l=>(bs l).toList==s.toList)=EE.length:=by rw[List.findIdx_eq_length];intro x U;obtain⟨j,o,rfl⟩:=List.getElem_of_mem U;exact t j o (by have:EE.length=16:=rfl;omega)
    unfold JN;rw[C,if_neg mT])
   obtain rfl:k=16:=by omega
   go_wp2;go_ret;rw[p.out];exact⟨rfl,rfl⟩
section
open Go.ChangeShapes Go.WideShapes Go.ChangeAt Go.RowKit
section
variable {H:Type} {enc:TypeId×nU->H} {P:Program}
theorem Rc(T:laidOutB P=true){W J:nS}(R:Below W W J)(I:Nat->Bool) :
  ∀(l:List TypeId) (C:List nU) (o:List (DataW H)) (j:List MemPlace),(∀t∈l,P.readableRec t=true/\t<P.types.size) ->
   DataW.TrodAll enc P W 0 (fun _=>true) true l C o j->(∀p∈j,p.block<W.heap.size)->(∀p∈j,I p.block=true)->DataW.TrodAll enc P J 0 I true l C o j
 | [],[],[],j,_,h,_,_=>h
 | t::l,v::C,d::o,j,hr,h,U,hs=>by
  obtain⟨p,q,h1,h2,rfl⟩:=h;have a0:=hr t mV;exact⟨p,q,WideElems.Trod_stays T a0.1 a0.2 h1 (fun x i=>R.same (U x (by simp[i]))) (fun x i=>hs x (by simp[i])),
   Rc T R I l C o q (fun t ht=>hr t (by simp[ht])) h2 (fun x i=>U x (by simp[i])) (fun x i=>hs x (by simp[i])),rfl⟩
 | [],[],_::_,_,_,h,_,_=>h.elim
 | [],_::_,_,_,_,h,_,_=>h.elim
 | _::_,[],_,_,_,h,_,_=>h.elim
 | _::_,_::_,[],_,_,h,_,_=>h.elim
def WC{f:Func}{s:ChangeSpec}{apart fresh a8 a6:Bool}{o:nS}{args:Array nU}{l I:List (DataW H)}{a1:List MemPlace}
  (J:DataW.Whole enc P f.params.toList s.vars apart W args.toList l I a1) (hv:s.vars=[])
  (a0:s.fn H (l++I)={results:=[.lit (.bool true)],args:=l}) {tb:TypeId} (aa:f.resultTypes=#[tb]) (ab:P.underlying tb=nJ .bool)
  (hl:laidOutB P=true) (hr:∀t∈f.params.toList,P.readableRec t=true/\t<P.types.size) (R:Below W W o)
  (a9:∀(j:Nat) (t:TypeId) (r:nU),f.resultTypes[j]?=nJ t->((Value.bool true).resultList f.resultTypes.size)[j]?=nJ r->Value.okWide P o .any 0 t r) :
  s.post enc P f apart fresh a8 a6 W args (nI true) o:=by
 have T:∀p∈a1,p.block<W.heap.size:=fun p U=>J.lt p U
 have a4:∀(b:Nat) (i:Nat->Bool) (hd:Bool),DataW.TrodAll enc P o b i hd f.resultTypes.toList ((Value.bool true).resultList f.resultTypes.size) (s.fn H (l++I)).results []:=by intro b i hd;rw[a0,aa];exact trodAll_mk1 (shut_bool ab true)
 have a7:=J;obtain⟨p,q,hA,hV,rfl,hz,hn⟩:=J;rw[hv]at hV;obtain⟨rfl,rfl⟩:=trodVars_none hV;simp only[List.append_nil]at *;have a2:∀i:Nat->Bool,(∀x∈p,i x.block=true)->DataW.TrodAll enc P o 0 i true f.params.toList args.toList (s.fn H l).args p:=by intro i hs;rw[a0];exact Rc hl R i _ _ _ _ hr hA T hs
 have a5:∀i:Nat->Bool,DataW.TrodVars enc P o i s.vars (s.fn H l).vars []:=by intro i;rw[a0,hv];exact rfl
 refine⟨l,[],p,[],p,[],a7,by simpa using a4 _ _ _,by simpa using a2 _ (fun x C=>by simpa using T x C),by simpa using a5 _,World.keptBut_mono (fun x C=>⟨C,?_⟩) (R.frame (·∈p)),fun _=>?_⟩
 ·exact Or.inr (by simpa using C)
 ·have hh:=trodAll_append (a2 (fun _=>true) (fun _ _=>rfl)) (a4 0 (fun _=>true) true)
  refine⟨a9,_,(s.fn H l).vars,[]++p,⟨[]++p,[],hh,a5 _,mV,?_,?_⟩,?_⟩
  ·intro b off U
   have a3:MemPlace.cell b off∈p:=by simpa using U
   rw[R.frozen (T _ a3)];exact hz b off a3
  ·intro ha
   simpa using hn ha
  ·intro x C _
   simpa using C
end
end
