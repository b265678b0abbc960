/- . -/
import Derived.Test.YtendpobbjjaopaaGreatDoorXab
import Derived.Lib.Index
import Derived.Test.YtendpobbjjaopaaGreatDoorXaa
import Derived.Test.YtendpobbjjaopaaGreatDoorProg
import Derived.Deep.RegionLaw
import Derived.Laws.BitsAllLaws
import Derived.Deep.DeepCutAuto
import Derived.Deep.RegionHeld3
import Derived.StillTail
import Derived.Deep.Quiet
import Derived.Deep.QuietTactic
import Derived.BigQuiet
import Derived.WalkKit
import Derived.RangeFuncNested
import Derived.RangeFuncBound
import Derived.RangeFuncCalls
import Derived.RangeFuncLeaves
import Derived.Test.YtendpobbjjaopaaGreatDoorRows
import Derived.Below
import Derived.Lib.Hide
import Derived.Lib.Strings
import Derived.ProofKit
import Derived.OpenShut
import Derived.ShutString
import Derived.Carry
import Derived.ChangeSame
import Derived.Test.YtendpobbjjaopaaGreatDoorXnm
set_option linter.all false
set_option maxRecDepth 100000
set_option maxHeartbeats 16000000
namespace Go.Proofs.YtendpobbjjaopaaGreatDoor
open Go.RowKit
open Value renaming slice→oG,int→oH,string→oJ,bool→oK
open Option renaming some→oM,none→oN
open IntKind renaming i64→oO
open Obj renaming cells→oP
open Ending renaming returned→oQ
open World renaming cell?→oT
open Go renaming World→oU,Value→oV
variable{B d f i:Nat}{e t:TypeId}{j o:List Deferred}{J:Oper}{a:Act}{args cs:Array oV}{xs:List oV}{P:Program}{listed:Array Bool}{Q:Exit->Act->oU->Prop}{A:Nat->Prop}{W:oU}{α:Type}{ps:Array Tmp}
structure Tk where
 k:Nat
 s:List UInt8
 p:Nat
variable{k:Nat}
abbrev Bp:=Nat×Nat
def FT(c:UInt8):Bool:=c==32||c==9||c==10||c==13
def CE(c:UInt8):Bool:=Bo c==4||Bo c==3
def Ci(p:UInt8->Bool)(l:List UInt8):Nat:=(l.takeWhile p).length
def JQ(sz p:Nat)(r:List UInt8):Except Bp (Nat×Nat):=
 if sz<=p+1+Bt r then .error (4,sz) else if r[Bt r]?≠oM 39\/Bt r=0 then .error (2,p+1+Bt r) else if 24<=1+Bt r then .error (5,p) else .ok (2,Bt r+2)
def JM(sz p:Nat)(r:List UInt8):Except Bp (Nat×Nat):=
 if r.head?=oM 42 then(if Lib.index (r.drop 1) [42,47]<0 then .error (4,sz) else .ok (0,(Lib.index (r.drop 1) [42,47]).toNat+4)) else .error (2,p)
def KL(p:Nat)(r:List UInt8):Except Bp (Nat×Nat):=
 if r.head?=oM 37 then .ok (6,2)
 else if r.take (Ci CE r)=[116,111,107,101,110] then .ok (7,1+Ci CE r)
 else if r.take (Ci CE r)=[115,116,97,114,116] then .ok (8,1+Ci CE r) else .error (2,p)
def Jh(c:UInt8):Nat:=if c=58 then 3 else if c=124 then 4 else if c=59 then 5 else 0
def GJ(sz p:Nat):List UInt8->Except Bp (Nat×Nat)
 | []=>.ok (0,0)
 | c::r=>
  if FT c then .ok (0,Ci FT (c::r))
  else if c=47 then JM sz p r
  else if c=39 then JQ sz p r
  else if c=37 then KL p r
  else if Bo c=4 then(if 24<Ci CE (c::r) then .error (5,p) else .ok (1,Ci CE (c::r)))
  else if Jh c≠0 then .ok (Jh c,1) else .error (2,p)
def Fb(sz:Nat):Nat->Nat->List UInt8->Except Bp (List Tk)
 | 0,_,_=>.error (0,0)
 | f+1,p,l=>
  if l.isEmpty then .ok [⟨0,[],sz⟩] else
  match GJ sz p l with
  | .error e=>.error e
  | .ok (k,n)=>(match Fb sz f (p+n) (l.drop n) with
   | .error e=>.error e
   | .ok i=>.ok (if k=0 then i else⟨k,l.take n,p⟩::i))
def tokens(l:List UInt8):Except Bp (List Tk):=if 8192<l.length then .error (5,0) else Fb l.length (l.length+1) 0 l
structure PS where
 l:List Tk
 p:Nat
structure PR where
 left:Tk
 GQ:List PS
structure Bl where
 decl:List Tk
 marks:List Nat
 starts:List Tk
 rules:List PR
def Bi(t:Tk):Bool:=t.k==1||t.k==2
def DR:List Tk->Bp
 | t::_=>(if t.k=0 then 4 else 3,t.p)
 | []=>(0,0)
def Cz(k:Nat):List Tk->Bool
 | t::_=>t.k==k
 | []=>false
def eW:List Tk->Nat
 | t::_=>t.p
 | []=>0
def C8(x:Bl):List Tk->Except Bp (Bl×List Tk)
 | []=>.error (0,0)
 | t::r=>
  if t.k=7 then(if (r.takeWhile Bi).isEmpty then .error (DR r) else .ok ({x with decl:=x.decl++r.takeWhile Bi},r.dropWhile Bi))
  else if t.k=8 then(if Cz 1 r then .ok ({x with marks:=x.marks++[t.p],starts:=x.starts++r.take 1},r.drop 1) else .error (DR r))
  else .error (DR (t::r))
def FQ:Nat->Bl->List Tk->Except Bp (Bl×List Tk)
 | 0,_,_=>.error (0,0)
 | f+1,x,l=>if Cz 6 l then .ok (x,l.drop 1) else
  match C8 x l with
  | .error e=>.error e
  | .ok (j,i)=>FQ f j i
def BU(l:List Tk):PS:=⟨l.takeWhile Bi,eW l⟩
def DQ:Nat->List PS->List Tk->List PS×List Tk
 | 0,a,l=>(a,l)
 | f+1,a,l=>if Cz 4 l then DQ f (a++[BU (l.drop 1)]) ((l.drop 1).dropWhile Bi) else(a,l)
def CT:List Tk->Except Bp (PR×List Tk)
 | []=>.error (0,0)
 | t::r=>
  if t.k≠1 then .error (DR (t::r)) else if Cz 3 r then
   (
    if Cz 5 (DQ r.length [BU (r.drop 1)] ((r.drop 1).dropWhile Bi)).2 then
     .ok (⟨t,(DQ r.length [BU (r.drop 1)] ((r.drop 1).dropWhile Bi)).1⟩,(DQ r.length [BU (r.drop 1)] ((r.drop 1).dropWhile Bi)).2.drop 1)
    else .error (DR (DQ r.length [BU (r.drop 1)] ((r.drop 1).dropWhile Bi)).2))
  else .error (DR r)
def FK:Nat->List PR->List Tk->Except Bp (List PR)
 | 0,_,_=>.error (0,0)
 | f+1,a,l=>if Cz 0 l then .ok a else
  match CT l with
  | .error e=>.error e
  | .ok (r,i)=>FK f (a++[r]) i
def FC(l:List Tk):Except Bp Bl:=
 match FQ (l.length+1) ⟨[],[],[],[]⟩ l with
 | .error e=>.error e
 | .ok (x,i)=>
  match CT i with
  | .error e=>.error e
  | .ok (r,j)=>
   match FK (l.length+1) [r] j with
   | .error e=>.error e
   | .ok o=>.ok {x with rules:=o}
abbrev AP:=List UInt8
variable{p:AP->Bool}
structure Bd where
 T:List AP
 N:List AP
 R:List (List AP)
def leftOf(x:Bl)(s:AP):Bool:=x.rules.any fun r=>r.left.s==s
def Cy(T:List AP)(t:Tk):Except Bp (List AP):=if T.contains t.s then .error (8,t.p) else if 120<=T.length then .error (7,t.p) else .ok (T++[t.s])
def Ex(i:AP->Bool)(st:Tk):Except Bp Unit:=if i st.s then .ok () else .error (9,st.p)
def BN(j:AP->Bool):Option (Nat×Tk)->List Tk->List AP->Except Bp (List AP)
 | none,[],T=>.ok T
 | some (_,l),[],T=>(match Ex j l with | .error e=>.error e | .ok _=>.ok T)
 | none,t::r,T=>(match Cy T t with | .error e=>.error e | .ok i=>BN j oN r i)
 | some (m,l),t::r,T=>
  if m<t.p then(match Ex j l with | .error e=>.error e | .ok _=>(match Cy T t with | .error e=>.error e | .ok i=>BN j oN r i))
  else(match Cy T t with | .error e=>.error e | .ok i=>BN j (oM (m,l)) r i)
def DI:List Nat->Nat
 | _::m::_=>m
 | _=>8193
def B5(x:Bl):Option (Nat×Tk):=match x.marks,x.starts with|m::_,i::_=>oM (m,i)|_,_=>oN
def GF(x:Bl):Except Bp (List AP):=
 match BN (leftOf x) (B5 x) x.decl [] with
 | .ok T=>if DI x.marks<=8192 then .error (8,DI x.marks) else .ok T
 | .error e=>if DI x.marks<=8192/\DI x.marks<e.2 then .error (8,DI x.marks) else .error e
def EP(D:Nat)(b:Bd)(t:Tk):Except Bp Bd:=
 if (b.T.take D).contains t.s then .error (8,t.p) else if b.N.contains t.s then .ok b else if 120<=b.N.length then .error (7,t.p) else .ok {b with N:=b.N++[t.s]}
def DZ(i:AP->Bool)(b:Bd)(t:Tk)(k:Nat):Except Bp Bd:=
 if 8<=k then .error (7,t.p) else if b.T.contains t.s then .ok b
 else if t.k=2 then(if 120<=b.T.length then .error (7,t.p) else .ok {b with T:=b.T++[t.s]})
 else if i t.s then .ok b else .error (9,t.p)
def D5(i:AP->Bool):Bd->Nat->List Tk->Except Bp Bd
 | b,_,[]=>.ok b
 | b,k,t::r=>match DZ i b t k with | .error e=>.error e | .ok j=>D5 i j (k+1) r
def DS(j:AP->Bool)(b:Bd)(left:AP)(s:PS):Except Bp Bd:=
 if 300<=b.R.length then .error (7,s.p) else
 match D5 j b 0 s.l with
 | .error e=>.error e
 | .ok i=>if i.R.contains (left::s.l.map Tk.s) then .error (8,s.p) else .ok {i with R:=i.R++[left::s.l.map Tk.s]}
def FD(i:AP->Bool)(left:AP):Bd->List PS->Except Bp Bd
 | b,[]=>.ok b
 | b,s::r=>match DS i b left s with | .error e=>.error e | .ok j=>FD i left j r
def J2(j:AP->Bool)(D:Nat)(b:Bd)(r:PR):Except Bp Bd:=
 match EP D b r.left with | .error e=>.error e | .ok i=>FD j r.left.s i r.GQ
def Df(i:AP->Bool)(D:Nat):Bd->List PR->Except Bp Bd
 | b,[]=>.ok b
 | b,r::l=>match J2 i D b r with | .error e=>.error e | .ok j=>Df i D j l
def B9(T N:List AP)(s:AP):Nat:=if T.contains s then T.idxOf s+1 else if N.contains s then T.length+N.idxOf s+1 else 0
structure PG where
 T:List AP
 N:List AP
 s:Nat
 R:List (Nat×List Nat)
variable{T:List AP}
def GM(T N:List AP):List AP->Nat×List Nat
 | []=>(0,[])
 | a::l=>(B9 T N a,l.map (B9 T N))
def Ho(x:Bl)(b:Bd):PG:=
 {T:=b.T,N:=b.N,s:=match x.starts with|[]=>b.T.length+1|i::_=>B9 b.T b.N i.s,R:=b.R.map (GM b.T b.N)}
def GH(x:Bl):Except Bp PG:=
 match GF x with
 | .error e=>.error e
 | .ok T=>match Df (leftOf x) T.length ⟨T,[],[]⟩ x.rules with
  | .error e=>.error e
  | .ok b=>.ok (Ho x b)
def Fc(s:List UInt8):Except Bp PG:=
 match tokens s with
 | .error e=>.error e
 | .ok l=>match FC l with
  | .error e=>.error e
  | .ok x=>GH x
structure CZ(lf:AP->Bool)(D:Nat)(b:Bd):Prop where
 i1:b.T.length<=120
 i2:b.N.length<=120
 i3:b.R.length<=300
 i4:b.T.Nodup
 i5:b.N.Nodup
 i6:∀s∈b.T,(CS s||CO s)=true
 i7:∀s∈b.N,CS s=true
 i8:∀s∈b.T.drop D,CO s=true
 i9:∀s∈b.N,s ∉ b.T.take D
 i0:D<=b.T.length
 i10:∀r∈b.R,∃a l,r=a::l/\a∈b.N/\l.length<=8/\∀c∈l,c∈b.T\/lf c=true
 i11:b.R.Nodup
variable{D:Nat}{b:Bd}
structure FP(R:List (List AP))(N:List AP):Prop where
 mem:∀a∈N,∃r∈R,r.head?=oM a
 ord:∀i j:Nat,i<j->∀a c,N[i]?=oM a->N[j]?=oM c->R.findIdx (fun r=>r.head?==oM a)<R.findIdx (fun r=>r.head?==oM c)
variable{R:List (List AP)}{N:List AP}
def Tk.CD(t:Tk):Prop:=(t.k=1->CS t.s=true)/\(t.k=2->CO t.s=true)
def OJ{i:Type}{p:i->Bool}{l r:List i}(h:∃x∈l,p x=true):(l++r).findIdx p=l.findIdx p:=by have j:l.findIdx p<l.length:=List.findIdx_lt_length_of_exists h;rw[List.findIdx_append];simp[j]
def FP.FW(h:FP R N)(r:List AP):FP (R++[r]) N where
 mem a ha:=by obtain⟨x,o,l⟩:=h.mem a ha;exact⟨x,List.mem_append_left _ o,l⟩
 ord i j t a c ha p:=by
  have e:∀a∈N,(R++[r]).findIdx (fun r=>r.head?==oM a)=R.findIdx (fun r=>r.head?==oM a):=fun a ha=>OJ (by obtain⟨x,o,l⟩:=h.mem a ha;exact⟨x,o,by simp[l]⟩)
  rw[e a (mG ha),e c (mG p)];exact h.ord i j t a c ha p
def FP.fresh(h:FP R N)(a:AP)(l:List AP)(ha:a ∉ N)(P:∀r∈R,∃c l,r=c::l/\c∈N):FP (R++[a::l]) (N++[a]) where
 mem c p:=by
  rcases mA.1 p with p|p
  ·obtain⟨x,o,t⟩:=h.mem c p;exact⟨x,List.mem_append_left _ o,t⟩
  ·rw[mS.1 p];exact⟨a::l,oA,rfl⟩
 ord i j U c d p C:=by
  have a0:j<(N++[a]).length:=(sG.1 C).1;simp at a0;have I:N[i]?=oM c:=by rw[gL nX]at p;exact p
  have e:(R++[a::l]).findIdx (fun r=>r.head?==oM c)=R.findIdx (fun r=>r.head?==oM c):=OJ (by obtain⟨x,o,t⟩:=h.mem c (mG I);exact⟨x,o,by simp[t]⟩);have a1:R.findIdx (fun r=>r.head?==oM c)<R.length:=List.findIdx_lt_length_of_exists (by obtain⟨x,o,t⟩:=h.mem c (mG I);exact⟨x,o,by simp[t]⟩);rw[e];by_cases hj:j<N.length
  ·have J:N[j]?=oM d:=by rw[gL hj]at C;exact C
   rw[OJ (by obtain⟨x,o,t⟩:=h.mem d (mG J);exact⟨x,o,by simp[t]⟩)];exact h.ord i j U c d I J
  ·obtain rfl:j=N.length:=by omega
   have:d=a:=by simp at C;exact C.symm
   subst this;have hn:R.findIdx (fun r=>r.head?==oM d)=R.length:=by rw[List.findIdx_eq_length];intro x o;obtain⟨c',l',rfl,T⟩:=P x o;simp;rintro rfl;exact ha T
   rw[List.findIdx_append,hn];simp;exact h.mem c (mG I)
def CZ.left{I:AP->Bool}{l:Bd}{t:Tk}(h:CZ I D b)(U:CS t.s=true)(i:EP D b t=.ok l):CZ I D l/\t.s∈l.N/\l.T=b.T/\l.R=b.R/\(l.N=b.N\/(t.s ∉ b.N/\l.N=b.N++[t.s])):=by
 unfold EP at i;split at i
 ·cases i
 rename_i J;split at i
 ·rename_i o
  injection i with i;subst i;exact⟨h,by simpa using o,rfl,rfl,.inl rfl⟩
 rename_i o;split at i
 ·cases i
 rename_i h3;injection i with i;subst i;have C:t.s ∉ b.N:=by simpa using o
 have P:t.s ∉ b.T.take D:=by simpa using J
 refine⟨⟨h.i1,oC,h.i3,h.i4,?_,h.i6,?_,h.i8,?_,h.i0,?_,h.i11⟩,oA,rfl,rfl,.inr ⟨C,rfl⟩⟩
 ·rw[List.nodup_append]
  refine⟨h.i5,oA,?_⟩;intro a ha c p;rw[mS.1 p];rintro rfl;exact C ha
 ·intro s j
  rcases mA.1 j with j|j
  ·exact h.i7 s j
  ·rw[mS.1 j];exact U
 ·intro s j
  rcases mA.1 j with j|j
  ·exact h.i9 s j
  ·rw[mS.1 j];exact P
 ·intro r T
  obtain⟨a,a0,e,ha,R,p⟩:=h.i10 r T;exact⟨a,a0,e,List.mem_append_left _ ha,R,p⟩
variable{left:AP}
def CZ.symbol{o:AP->Bool}{l:Bd}{t:Tk}(h:CZ o D b)(P:t.CD)(i:DZ o b t k=.ok l):CZ o D l/\k<8/\(t.s∈l.T\/o t.s=true)/\l.N=b.N/\l.R=b.R/\(∀s∈b.T,s∈l.T):=by
 unfold DZ at i;split at i
 ·cases i
 rename_i h0;split at i
 ·rename_i p
  injection i with i;subst i;exact⟨h,nX,.inl (by simpa using p),rfl,rfl,fun _ h=>h⟩
 rename_i p;have R:t.s ∉ b.T:=by simpa using p
 split at i
 ·rename_i I
  split at i
  ·cases i
  rename_i J;injection i with i;subst i;refine⟨⟨oC,h.i2,h.i3,?_,h.i5,?_,h.i7,?_,?_,by simp;have:=h.i0;omega,?_,h.i11⟩,nX,.inl oA,rfl,rfl,fun s j=>List.mem_append_left _ j⟩
  ·rw[List.nodup_append]
   refine⟨h.i4,oA,?_⟩;intro a ha c C;rw[mS.1 C];rintro rfl;exact R ha
  ·intro s j
   rcases mA.1 j with j|j
   ·exact h.i6 s j
   ·rw[mS.1 j,P.2 I];simp
  ·intro s j
   rw[List.drop_append_of_le_length h.i0]at j;rcases mA.1 j with j|j
   ·exact h.i8 s j
   ·rw[mS.1 j];exact P.2 I
  ·intro s j
   show s ∉ (b.T++[t.s]).take D;rw[List.take_append_of_le_length h.i0];exact h.i9 s j
  ·intro r hr
   obtain⟨a,a0,e,ha,hl,C⟩:=h.i10 r hr;exact⟨a,a0,e,ha,hl,fun c T=>(C c T).imp (fun U=>List.mem_append_left _ U) id⟩
 ·split at i
  ·rename_i J
   injection i with i;subst i;exact⟨h,nX,.inr J,rfl,rfl,fun _ h=>h⟩
  ·cases i
theorem CZ.syms:∀(l:List Tk) {b j:Bd} {k:Nat},CZ p D b->(∀t∈l,t.CD)->D5 p b k l=.ok j ->
  CZ p D j/\(l=[]\/k+l.length<=8)/\(∀t∈l,t.s∈j.T\/p t.s=true)/\j.N=b.N/\j.R=b.R/\(∀s∈b.T,s∈j.T)
 | [],b,j,k,h,_,i=>by simp only[D5]at i;injection i with i;subst i;exact⟨h,.inl rfl,oA,rfl,rfl,fun _ h=>h⟩
 | t::r,b,j,k,h,I,i=>by
  simp only[D5]at i;cases o:DZ p b t k with
  | error e=>rw[o]at i;cases i
  | ok b1=>
   rw[o]at i;obtain⟨R,g2,T,U,g5,g6⟩:=h.symbol (I t oA) o;obtain⟨q1,J,q3,q4,q5,P⟩:=CZ.syms r R (fun t ht=>I t (by simp[ht])) i;refine⟨q1,.inr ?_,?_,q4.trans U,q5.trans g5,fun s o=>P s (g6 s o)⟩
   ·rcases J with rfl|J
    ·simp;omega
    ·simp;omega
   ·intro u C
    rcases List.mem_cons.1 C with rfl|C
    ·exact T.imp (P _) id
    ·exact q3 u C
theorem CZ.side{o:Bd}{s:PS}(h:CZ p D b)(hl:left∈b.N)(hs:∀t∈s.l,t.CD)(i:DS p b left s=.ok o) :
  CZ p D o/\o.N=b.N/\o.R=b.R++[left::s.l.map Tk.s]:=by
 unfold DS at i;split at i
 ·cases i
 rename_i h0;cases I:D5 p b 0 s.l with
 | error e=>rw[I]at i;cases i
 | ok T=>
  rw[I]at i;simp only at i;split at i
  ·cases i
  rename_i U;injection i with i;subst i;obtain⟨j,J,q3,P,R,q6⟩:=h.syms s.l hs I;have a0:left::s.l.map Tk.s ∉ T.R:=by simpa using U
  refine⟨⟨j.i1,j.i2,by simp;rw[R];omega,j.i4,j.i5,j.i6,j.i7,j.i8,j.i9,j.i0,?_,?_⟩,P,by rw[<-R]⟩
  ·intro r l
   rcases mA.1 l with l|l
   ·exact j.i10 r l
   ·rw[mS.1 l]
    refine⟨left,_,rfl,by rw[P];exact hl,?_,?_⟩
    ·rcases J with e|J
     ·rw[e];simp
     ·simp;omega
    ·intro c C
     obtain⟨t,ht,rfl⟩:=List.mem_map.1 C;exact q3 t ht
  ·rw[List.nodup_append]
   refine⟨j.i11,oA,?_⟩;intro a ha c C;rw[mS.1 C];rintro rfl;exact a0 ha
def NJ(b:Bd)(left:AP):Prop:=(FP b.R b.N/\left∈b.N)\/∃i,b.N=i++[left]/\left ∉ i/\FP b.R i/\∀r∈b.R,∃c l,r=c::l/\c∈i
theorem CZ.GQ{C:AP->Bool}:∀(l:List PS) {b j:Bd},CZ C D b->NJ b left->(∀s∈l,∀t∈s.l,t.CD)->FD C left b l=.ok j ->
  CZ C D j/\j.N=b.N/\(l≠[]->FP j.R j.N)/\NJ j left
 | [],b,j,h,p,_,i=>by simp only[FD]at i;injection i with i;subst i;exact⟨h,rfl,fun h=>absurd rfl h,p⟩
 | s::r,b,j,h,p,hs,i=>by
  simp only[FD]at i;cases P:DS C b left s with
  | error e=>rw[P]at i;cases i
  | ok I=>
   rw[P]at i;have T:left∈b.N:=by
    rcases p with⟨_,o⟩|⟨N0,o,_⟩
    ·exact o
    ·rw[o];simp
   obtain⟨g1,J,g3⟩:=h.side T (hs s oA) P;have U:FP I.R I.N:=by
    rw[g3,J];rcases p with⟨o,R⟩|⟨N0,o,R,h3,h4⟩
    ·exact o.FW _
    ·rw[o];exact h3.fresh left _ R h4
   have a0:NJ I left:=.inl ⟨U,by rw[J];exact T⟩;obtain⟨q1,q2,q3,q4⟩:=CZ.GQ r g1 a0 (fun s a1=>hs s (by simp[a1])) i;refine⟨q1,q2.trans J,fun _=>?_,q4⟩;by_cases hr:r=[]
   ·subst hr
    simp only[FD]at i;injection i with i;subst i;exact U
   ·exact q3 hr
theorem CZ.Br{J:AP->Bool}{r:PR}{j:Bd}(h:CZ J D b)(R:FP b.R b.N)(hk:CS r.left.s=true)(o:∀s∈r.GQ,∀t∈s.l,t.CD)(a0:r.GQ≠[])(l:J2 J D b r=.ok j) :
  CZ J D j/\FP j.R j.N/\(∀s∈b.N,s∈j.N)/\r.left.s∈j.N:=by
 unfold J2 at l;cases I:EP D b r.left with
 | error e=>rw[I]at l;cases l
 | ok U=>
  rw[I]at l;obtain⟨g1,P,g3,p,i⟩:=h.left hk I;have a1:NJ U r.left.s:=by
   rcases i with i|⟨i,C⟩
   ·exact .inl ⟨by rw[p,i];exact R,P⟩
   ·refine .inr ⟨b.N,C,i,by rw[p];exact R,?_⟩
    rw[p];intro r' a2;obtain⟨a,a3,e,ha,_⟩:=h.i10 r' a2;exact⟨a,a3,e,ha⟩
  obtain⟨q1,T,q3,_⟩:=g1.GQ r.GQ a1 o l;refine⟨q1,q3 a0,fun s o=>?_,by rw[T];exact P⟩;rw[T];rcases i with i|⟨_,C⟩
  ·rw[i];exact o
  ·rw[C];exact List.mem_append_left _ o
def PR.CD(r:PR):Prop:=CS r.left.s=true/\(∀s∈r.GQ,∀t∈s.l,t.CD)/\r.GQ≠[]
theorem CZ.rules:∀(l:List PR) {b j:Bd},CZ p D b->FP b.R b.N->(∀r∈l,r.CD)->Df p D b l=.ok j ->
  CZ p D j/\FP j.R j.N/\(∀s∈b.N,s∈j.N)/\∀r∈l,r.left.s∈j.N
 | [],b,j,h,t,_,i=>by simp only[Df]at i;injection i with i;subst i;exact⟨h,t,fun _ h=>h,oA⟩
 | r::l,b,j,h,t,o,i=>by
  simp only[Df]at i;cases C:J2 p D b r with
  | error e=>rw[C]at i;cases i
  | ok b1=>
   rw[C]at i;obtain⟨k1,k2,k3⟩:=o r oA;obtain⟨P,R,T,U⟩:=h.Br t k1 k2 k3 C;obtain⟨q1,q2,J,q4⟩:=CZ.rules l P R (fun r hr=>o r (by simp[hr])) i;refine⟨q1,q2,fun s o=>J s (T s o),fun r' I=>?_⟩;rcases List.mem_cons.1 I with rfl|I
   ·exact J _ U
   ·exact q4 r' I
def dX{R:AP->Bool}:∀(l:List Tk) (m:Option (Nat×Tk)) {T T':List AP},(∀t∈l,t.CD/\Bi t=true)->T.length<=120->T.Nodup->(∀s∈T,(CS s||CO s)=true)->BN R m l T=.ok T' ->
  T'.length<=120/\T'.Nodup/\∀s∈T',(CS s||CO s)=true:=by
 have one:∀{T T':List AP} {t:Tk},t.CD/\Bi t=true->T.length<=120->T.Nodup->(∀s∈T,(CS s||CO s)=true)->Cy T t=.ok T'->T'.length<=120/\T'.Nodup/\∀s∈T',(CS s||CO s)=true:=by
  intro T T' t p C j o i;unfold Cy at i;split at i
  ·cases i
  rename_i g1;split at i
  ·cases i
  rename_i g2;injection i with i;subst i;have a0:t.s ∉ T:=by simpa using g1
  refine⟨oC,?_,?_⟩
  ·rw[List.nodup_append]
   refine⟨j,oA,?_⟩;intro a ha c hc;rw[mS.1 hc];rintro rfl;exact a0 ha
  ·intro s J
   rcases mA.1 J with J|J
   ·exact o s J
   ·rw[mS.1 J]
    have:=p.2;unfold Bi at this;rw[Bool.or_eq_true,beq_iff_eq,beq_iff_eq]at this;rcases this with k|k
    ·rw[p.1.1 k];rfl
    ·rw[p.1.2 k];simp
 intro l;induction l with
 | nil=>
  intro m T T' _ C j o i;cases m with
  | none=>simp only[BN]at i;injection i with i;subst i;exact⟨C,j,o⟩
  | some q=>
   obtain⟨m,U⟩:=q;simp only[BN]at i;cases I:Ex R U with
   | error e=>rw[I]at i;cases i
   | ok u=>rw[I]at i;injection i with i;subst i;exact⟨C,j,o⟩
 | cons t r ih=>
  intro m T T' p C j o i;have step:∀(m':Option (Nat×Tk)),(match Cy T t with | .error e=>.error e | .ok T1=>BN R m' r T1)=Except.ok T'->T'.length<=120/\T'.Nodup/\∀s∈T',(CS s||CO s)=true:=by
   intro m' P;cases hd:Cy T t with
   | error e=>rw[hd]at P;cases P
   | ok T1=>rw[hd]at P;obtain⟨k1,k2,k3⟩:=one (p t oA) C j o hd;exact ih m' (fun t a1=>p t (by simp[a1])) k1 k2 k3 P
  cases m with
  | none=>simp only[BN]at i;exact step oN i
  | some q=>
   obtain⟨m,U⟩:=q;simp only[BN]at i;split at i
   ·cases I:Ex R U with
    | error e=>rw[I]at i;cases i
    | ok u=>rw[I]at i;exact step oN i
   ·exact step (oM (m,U)) i
theorem Wz{j:AP->Bool}{st:Tk}:∀(l:List Tk) {m:Nat} {T T':List AP},BN j (oM (m,st)) l T=.ok T'->j st.s=true:=by
 have one:Ex j st=.ok ()->j st.s=true:=by
  unfold Ex;split
  ·intro _;assumption
  ·intro h;cases h
 intro l;induction l with
 | nil=>
  intro m T T' i;simp only[BN]at i;cases o:Ex j st with
  | error e=>rw[o]at i;cases i
  | ok u=>exact one o
 | cons t r C=>
  intro m T T' i;simp only[BN]at i;split at i
  ·cases o:Ex j st with
   | error e=>rw[o]at i;cases i
   | ok u=>exact one o
  ·cases p:Cy T t with
   | error e=>rw[p]at i;cases i
   | ok I=>rw[p]at i;exact C i
def Dh(l:List Tk):Prop:=∀t∈l,t.CD
def Dh.drop{l:List Tk}(h:Dh l)(n:Nat):Dh (l.drop n):=fun t i=>h t (List.mem_of_mem_drop i)
def Dh.I3{l:List Tk}(h:Dh l):Dh (l.dropWhile Bi):=fun t i=>h t ((List.dropWhile_sublist Bi).mem i)
theorem lx{l:List Tk}:∀t∈l.takeWhile Bi,Bi t=true:=by
 induction l with
 | nil=>intro t i;simp at i
 | cons a r j=>
  intro t i;rw[List.takeWhile_cons]at i;split at i
  ·rename_i ha
   rcases List.mem_cons.1 i with rfl|i
   ·exact ha
   ·exact j t i
  ·simp at i
def Dh.SI{l:List Tk}(h:Dh l):∀t∈l.takeWhile Bi,t.CD/\Bi t=true:=fun t i=>⟨h t ((List.takeWhile_sublist Bi).mem i),lx t i⟩
structure Bl.CD(x:Bl):Prop where
 decl:∀t∈x.decl,t.CD/\Bi t=true
 same:x.marks.length=x.starts.length
variable{x:Bl}
theorem mB{C:Bl}{l J:List Tk}(p:x.CD)(I:Dh l)(i:C8 x l=.ok (C,J)):C.CD/\Dh J/\C.rules=x.rules:=by
 unfold C8 at i;cases l with
 | nil=>cases i
 | cons t r=>
  simp only at i;split at i
  ·split at i
   ·cases i
   ·injection i with i
    obtain⟨rfl,rfl⟩:=Prod.mk.inj i;have o:Dh r:=fun t j=>I t (by simp[j])
    refine⟨⟨?_,p.same⟩,o.I3,rfl⟩;intro t j;rcases mA.1 j with j|j
    ·exact p.decl t j
    ·exact o.SI t j
  ·split at i
   ·split at i
    ·rename_i R P
     injection i with i;obtain⟨rfl,rfl⟩:=Prod.mk.inj i;have o:Dh r:=fun t j=>I t (by simp[j])
     refine⟨⟨p.decl,?_⟩,o.drop 1,rfl⟩;cases r with
     | nil=>simp[Cz]at P
     | cons u T=>simp[p.same]
    ·cases i
   ·cases i
theorem QG:∀(f:Nat) {x j:Bl} {l p:List Tk},x.CD->Dh l->FQ f x l=.ok (j,p)->j.CD/\Dh p/\j.rules=x.rules
 | 0,_,_,_,_,_,_,i=>by cases i
 | f+1,x,j,l,p,C,t,i=>by
  simp only[FQ]at i;split at i
  ·injection i with i
   obtain⟨rfl,rfl⟩:=Prod.mk.inj i;exact⟨C,t.drop 1,rfl⟩
  ·cases o:C8 x l with
   | error e=>rw[o]at i;cases i
   | ok q=>obtain⟨x1,l1⟩:=q;rw[o]at i;obtain⟨I,J,P⟩:=mB C t o;obtain⟨R,T,U⟩:=QG f I J i;exact⟨R,T,U.trans P⟩
def SO{l:List Tk}(i:Dh l):∀t∈(BU l).l,t.CD:=fun t j=>(i.SI t j).1
theorem UY:∀(f:Nat) {a:List PS} {l:List Tk},a≠[]->(∀s∈a,∀t∈s.l,t.CD)->Dh l ->
  (DQ f a l).1≠[]/\(∀s∈(DQ f a l).1,∀t∈s.l,t.CD)/\Dh (DQ f a l).2
 | 0,a,l,h0,o,i=>⟨h0,o,i⟩
 | f+1,a,l,h0,o,i=>by
  simp only[DQ];split
  ·refine UY f oA ?_ (i.drop 1).I3
   intro s j;rcases mA.1 j with j|j
   ·exact o s j
   ·rw[mS.1 j];exact SO (i.drop 1)
  ·exact⟨h0,o,i⟩
theorem Sk{l p:List Tk}{r:PR}(j:Dh l)(i:CT l=.ok (r,p)):r.CD/\Dh p:=by
 unfold CT at i;cases l with
 | nil=>cases i
 | cons t rest=>
  simp only at i;split at i
  ·cases i
  rename_i T;split at i
  ·split at i
   ·injection i with i
    obtain⟨rfl,rfl⟩:=Prod.mk.inj i;have o:Dh rest:=fun t R=>j t (by simp[R])
    obtain⟨C,I,J⟩:=UY rest.length (a:=[BU (rest.drop 1)]) (l:=(rest.drop 1).dropWhile Bi) oA (fun s P=>by rw[mS.1 P];exact SO (o.drop 1)) (o.drop 1).I3;exact⟨⟨(j t oA).1 nX,I,C⟩,J.drop 1⟩
   ·cases i
  ·cases i
theorem Sh:∀(f:Nat) {a o:List PR} {l:List Tk},(∀r∈a,r.CD)->Dh l->FK f a l=.ok o->(∀r∈o,r.CD)/\(a≠[]->o≠[])
 | 0,_,_,_,_,_,i=>by cases i
 | f+1,a,o,l,ha,I,i=>by
  simp only[FK]at i;split at i
  ·injection i with i
   subst i;exact⟨ha,id⟩
  ·cases p:CT l with
   | error e=>rw[p]at i;cases i
   | ok q=>
    obtain⟨r,T⟩:=q;rw[p]at i;obtain⟨t,C⟩:=Sk I p;obtain⟨J,P⟩:=Sh f (a:=a++[r]) (fun R j=>by
     rcases mA.1 j with j|j
     ·exact ha R j
     ·rw[mS.1 j];exact t) C i
    exact⟨J,fun _=>P oA⟩
theorem kX{l:List Tk}(I:Dh l)(i:FC l=.ok x):x.CD/\(∀r∈x.rules,r.CD)/\x.rules≠[]:=by
 unfold FC at i;cases o:FQ (l.length+1) ⟨[],[],[],[]⟩ l with
 | error e=>rw[o]at i;cases i
 | ok q=>
  obtain⟨x1,T⟩:=q;rw[o]at i;obtain⟨t,C,_⟩:=QG _ ⟨oA,rfl⟩ I o;simp only at i;cases p:CT T with
  | error e=>rw[p]at i;cases i
  | ok q=>
   obtain⟨r,U⟩:=q;rw[p]at i;obtain⟨P,R⟩:=Sk C p;simp only at i;cases j:FK (l.length+1) [r] U with
   | error e=>rw[j]at i;cases i
   | ok rs=>rw[j]at i;injection i with i;subst i;obtain⟨m1,m2⟩:=Sh _ (fun r' J=>by rw[mS.1 J];exact P) R j;exact⟨⟨t.decl,t.same⟩,m1,m2 oA⟩
theorem PK{p:UInt8->Bool}(l:List UInt8):l.take (l.takeWhile p).length=l.takeWhile p:=by
 induction l with
 | nil=>rfl
 | cons a r i=>
  rw[List.takeWhile_cons];split
  ·simp[i]
  ·rfl
theorem TR{p:UInt8->Bool}(l:List UInt8):(l.takeWhile p).all p=true:=by
 induction l with
 | nil=>rfl
 | cons a r i=>
  rw[List.takeWhile_cons];split
  ·rename_i h;simp[h]
  ·rfl
theorem Wq(r:List UInt8)(x:List UInt8):Bt (r.takeWhile Fg++39::x)=Bt r:=by
 unfold Bt;induction r with
 | nil=>rfl
 | cons a r i=>
  by_cases h:Fg a=true
  ·simp[h]
   simpa using i
  ·simp[h]
   rfl
theorem PF{sz p:Nat}{l:List UInt8}{n:Nat}(i:GJ sz p l=.ok (k,n)):Tk.CD ⟨k,l.take n,p⟩/\(0<l.length->0<n):=by
 unfold GJ at i;cases l with
 | nil=>injection i with i;obtain⟨rfl,rfl⟩:=Prod.mk.inj i;exact⟨⟨(fun h=>by cases h),(fun h=>by cases h)⟩,fun h=>by simp at h⟩
 | cons c r=>
  simp only at i;split at i
  ·rename_i hw
   injection i with i;obtain⟨rfl,rfl⟩:=Prod.mk.inj i;exact⟨⟨(fun h=>by cases h),(fun h=>by cases h)⟩,fun _=>by unfold Ci;simp[hw]⟩
  split at i
  ·unfold JM at i
   split at i
   ·split at i
    ·cases i
    ·injection i with i;obtain⟨rfl,rfl⟩:=Prod.mk.inj i;exact⟨⟨(fun h=>by cases h),(fun h=>by cases h)⟩,fun _=>by omega⟩
   ·cases i
  split at i
  ·rename_i U
   subst U;unfold JQ at i;split at i
   ·cases i
   split at i
   ·cases i
   rename_i o;split at i
   ·cases i
   rename_i h3;injection i with i;obtain⟨rfl,rfl⟩:=Prod.mk.inj i;refine⟨⟨(fun h=>by cases h),fun _=>?_⟩,fun _=>by omega⟩;have t:r[Bt r]?=oM 39:=by
    by_cases h:r[Bt r]?=oM 39
    ·exact h
    ·exact absurd (.inl h) o
   have R:Bt r≠0:=fun h=>o (.inr h)
   have T:Bt r<r.length:=(sG.1 t).1;have ht:(39::r).take (Bt r+2)=39::(r.takeWhile Fg++[39]):=by rw[List.take_succ_cons,List.take_succ_eq_append_getElem T,(sG.1 t).2];congr 2;exact PK r
   have P:=Wq r [];have J:(r.takeWhile Fg).length=Bt r:=rfl;show CO ((39::r).take (Bt r+2))=true;rw[ht];unfold CO;rw[List.drop_succ_cons,List.drop_zero,P];simp[J];refine⟨⟨⟨nX,?_⟩,R⟩,nX⟩;rw[show (39::(r.takeWhile Fg++[(39:UInt8)]))[1+Bt r]?=(r.takeWhile Fg++[(39:UInt8)])[Bt r]? by rw[Nat.add_comm];rfl];rw[List.getElem?_append_right nX,J];simp
  split at i
  ·unfold KL at i
   split at i
   ·injection i with i;obtain⟨rfl,rfl⟩:=Prod.mk.inj i;exact⟨⟨(fun h=>by cases h),(fun h=>by cases h)⟩,fun _=>by omega⟩
   split at i
   ·injection i with i;obtain⟨rfl,rfl⟩:=Prod.mk.inj i;exact⟨⟨(fun h=>by cases h),(fun h=>by cases h)⟩,fun _=>by omega⟩
   split at i
   ·injection i with i;obtain⟨rfl,rfl⟩:=Prod.mk.inj i;exact⟨⟨(fun h=>by cases h),(fun h=>by cases h)⟩,fun _=>by omega⟩
   ·cases i
  split at i
  ·rename_i C
   split at i
   ·cases i
   rename_i j;injection i with i;obtain⟨rfl,rfl⟩:=Prod.mk.inj i;have I:CE c=true:=by unfold CE;simp[C]
   refine⟨⟨fun _=>?_,(fun h=>by cases h)⟩,fun _=>by unfold Ci;simp[I]⟩;show CS ((c::r).take (Ci CE (c::r)))=true;unfold Ci at j ⊢;rw[PK];rw[List.takeWhile_cons,if_pos I]at j ⊢;unfold CS Ek;have:=TR (p:=CE) r;have e:((r.takeWhile CE).all fun d=>Bo d==4||Bo d==3)=true:=this;simp only[e,C,Bool.and_true];simp at j ⊢;omega
  split at i
  ·rename_i P
   injection i with i;obtain⟨rfl,rfl⟩:=Prod.mk.inj i;refine⟨⟨fun h=>?_,fun h=>?_⟩,fun _=>by omega⟩
   ·unfold Jh at h;split at h;· cases h
    split at h;· cases h
    split at h<;>cases h
   ·unfold Jh at h;split at h;· cases h
    split at h;· cases h
    split at h<;>cases h
  ·cases i
theorem Uv{sz:Nat}:∀(f p:Nat) (l:List UInt8) {I:List Tk},Fb sz f p l=.ok I->Dh I
 | 0,_,_,_,i=>by cases i
 | f+1,p,l,I,i=>by
  simp only[Fb]at i;split at i
  ·injection i with i;subst i
   intro t j;rw[mS.1 j];exact⟨(fun h=>by cases h),(fun h=>by cases h)⟩
  ·cases o:GJ sz p l with
   | error e=>rw[o]at i;cases i
   | ok q=>
    obtain⟨k,n⟩:=q;rw[o]at i;simp only at i;cases C:Fb sz f (p+n) (l.drop n) with
    | error e=>rw[C]at i;cases i
    | ok P=>
     rw[C]at i;injection i with i;subst i;have J:=Uv f _ _ C;split
     ·exact J
     ·intro t j
      rcases List.mem_cons.1 j with rfl|j
      ·exact(PF o).1
      ·exact J t j
structure PG.Good(g:PG):Prop where
 g1:g.T.length<=120
 g2:g.N.length<=120
 g3:g.R.length<=300
 g4:∀r∈g.R,r.2.length<=8
 g5:∀s∈g.T,(CS s||CO s)=true
 g6:∀s∈g.N,CS s=true
 g7:(g.T++g.N).Nodup
 g8:g.T.length<g.s/\g.s<=g.T.length+g.N.length
 g9:∀r∈g.R,(g.T.length<r.1/\r.1<=g.T.length+g.N.length)/\∀a∈r.2,1<=a/\a<=g.T.length+g.N.length
 g10:g.R.Nodup
 g11:∀i,i<g.N.length->∃r∈g.R,r.1=g.T.length+1+i
 g12:∀i j,i<j->j<g.N.length->g.R.findIdx (fun r=>r.1==g.T.length+1+i)<g.R.findIdx (fun r=>r.1==g.T.length+1+j)
theorem X8(t:x.CD)(i:GF x=.ok T) :
  (T.length<=120/\T.Nodup/\∀s∈T,(CS s||CO s)=true)/\∀st l,x.starts=st::l->leftOf x st.s=true:=by
 unfold GF at i;cases j:BN (leftOf x) (B5 x) x.decl [] with
 | error e=>rw[j]at i;simp only at i;split at i<;>cases i
 | ok C=>
  rw[j]at i;simp only at i;split at i
  ·cases i
  injection i with i;subst i;refine⟨dX x.decl (B5 x) t.decl oA oA oA j,?_⟩;intro st l p;have:∃m,B5 x=oM (m,st):=by
   unfold B5;rw[p];cases o:x.marks with
   | nil=>have:=t.same;rw[o,p]at this;simp at this
   | cons m I=>exact⟨m,rfl⟩
  obtain⟨m,o⟩:=this;rw[o]at j;exact Wz _ j
theorem iL{s:AP}(h:CS s=true):CO s=false:=by
 cases s with
 | nil=>rfl
 | cons c r=>
  by_cases i:c=39
  ·subst i
   exfalso;have:CS (39::r)=false:=by show ((Bo 39==4&&(r.all fun d=>Bo d==4||Bo d==3))&&decide ((39::r).length<=24))=false;rw[show (Bo 39==4)=false from rfl];rfl
   rw[this]at h;cases h
  ·unfold CO
   simp[i]
def MD{s:AP}(h:s∈T):B9 T N s=T.idxOf s+1:=by unfold B9;rw[if_pos (by simpa using h)]
def No{s:AP}(h:s ∉ T)(i:s∈N):B9 T N s=T.length+N.idxOf s+1:=by unfold B9;rw[if_neg (by simpa using h),if_pos (by simpa using i)]
def T6{a c:AP}(ha:a∈T\/a∈N)(j:c∈T\/c∈N)(h:B9 T N a=B9 T N c):a=c:=by
 have inj:∀{L:List AP} {a c:AP},a∈L->c∈L->L.idxOf a=L.idxOf c->a=c:=by intro L a c ha j h;have l:=List.getElem_idxOf (List.idxOf_lt_length_of_mem ha);have o:=List.getElem_idxOf (List.idxOf_lt_length_of_mem j);rw[<-l,<-o];congr 1
 by_cases i:a∈T
 ·have p:=List.idxOf_lt_length_of_mem i
  rw[MD i]at h;by_cases c1:c∈T
  ·rw[MD c1]at h
   exact inj i c1 nX
  ·rw[No c1 (j.resolve_left c1)]at h
   omega
 ·rw[No i (ha.resolve_left i)]at h
  by_cases c1:c∈T
  ·have p:=List.idxOf_lt_length_of_mem c1
   rw[MD c1]at h;omega
  ·rw[No c1 (j.resolve_left c1)]at h
   exact inj (ha.resolve_left i) (j.resolve_left c1) nX
theorem O8{i:Type}{p q:i->Bool}:∀{l:List i},(∀x∈l,p x=q x)->l.findIdx p=l.findIdx q
 | [],_=>rfl
 | a::r,h=>by rw[List.findIdx_cons,List.findIdx_cons,h a oA,O8 (fun x j=>h x (by simp[j]))]
theorem WR{g:PG}(hx:x.CD)(l:∀r∈x.rules,r.CD)(a7:x.rules≠[])(t:GH x=.ok g):g.Good:=by
 unfold GH at t;cases R:GF x with
 | error e=>rw[R]at t;cases t
 | ok T=>
  rw[R]at t;simp only at t;obtain⟨⟨t1,t2,t3⟩,ao⟩:=X8 hx R;cases hb:Df (leftOf x) T.length ⟨T,[],[]⟩ x.rules with
  | error e=>rw[hb]at t;cases t
  | ok b=>
   rw[hb]at t;injection t with t;subst t;have aj:CZ (leftOf x) T.length ⟨T,[],[]⟩:=⟨t1,oA,oA,t2,oA,t3,oA,oA,oA,Ay _,oA,oA⟩
   obtain⟨j,ho,_,hl⟩:=CZ.rules x.rules aj ⟨oA,oA⟩ l hb;have a6:∀s,leftOf x s=true->s∈b.N:=by intro s o;unfold leftOf at o;obtain⟨r,a9,aa⟩:=List.any_eq_true.1 o;rw[<-beq_iff_eq.1 aa];exact hl r a9
   have ab:∀s∈b.N,s ∉ b.T:=by
    intro s o U;rw[<-List.take_append_drop T.length b.T]at U;rcases mA.1 U with U|U
    ·exact j.i9 s o U
    ·have:=j.i8 s U
     rw[iL (j.i7 s o)]at this;cases this
   have hN:∀s∈b.N,B9 b.T b.N s=b.T.length+b.N.idxOf s+1:=fun s o=>No (ab s o) o
   have a0:∀s∈b.N,b.N.idxOf s<b.N.length:=fun s o=>List.idxOf_lt_length_of_mem o
   have ak:∀i (h:i<b.N.length),b.N.idxOf b.N[i]=i:=by intro i h;have C:=List.getElem_idxOf (a0 _ (List.getElem_mem h));exact(List.getElem_inj j.i5).1 C
   have ae:∀i (h:i<b.N.length),∀r∈b.R,((GM b.T b.N r).1==b.T.length+1+i)=(r.head?==oM b.N[i]):=by
    intro i h r l;obtain⟨a,a3,rfl,ha,_⟩:=j.i10 r l;show (B9 b.T b.N a==b.T.length+1+i)=(oM a==oM b.N[i])
    rw[hN a ha,Bool.eq_iff_iff,beq_iff_eq,beq_iff_eq,Option.some.injEq];constructor
    ·intro e
     have e2:b.N.idxOf a=i:=by omega
     have C:=List.getElem_idxOf (a0 a ha);rw[<-C];congr 1
    ·rintro rfl
     rw[ak i h];omega
   have ad:∀i (h:i<b.N.length),(b.R.map (GM b.T b.N)).findIdx (fun r=>r.1==b.T.length+1+i)=b.R.findIdx (fun r=>r.head?==oM b.N[i]):=by intro i h;rw[List.findIdx_map];exact O8 (fun r l=>ae i h r l)
   refine⟨j.i1,j.i2,?_,?_,j.i6,j.i7,?_,?_,?_,?_,?_,?_⟩
   ·show (b.R.map _).length<=300
    simpa using j.i3
   ·intro r l
    obtain⟨r',a8,rfl⟩:=List.mem_map.1 l;obtain⟨a,a3,rfl,_,h8,_⟩:=j.i10 r' a8;simpa [GM] using h8
   ·show (b.T++b.N).Nodup
    rw[List.nodup_append];refine⟨j.i4,j.i5,?_⟩;rintro a ha c p rfl;exact ab a p ha
   ·show b.T.length<(Ho x b).s/\(Ho x b).s<=b.T.length+b.N.length
    unfold Ho;simp only;cases o:x.starts with
    | nil=>
     simp only;have:0<b.N.length:=by
      cases af:x.rules with
      | nil=>exact absurd af a7
      | cons r a3=>exact List.length_pos_of_mem (hl r (by rw[af];simp))
     omega
    | cons st a3=>simp only;have hm:=a6 _ (ao st a3 o);rw[hN _ hm];have:=a0 _ hm;omega
   ·intro r l
    obtain⟨r',a8,rfl⟩:=List.mem_map.1 l;obtain⟨a,a3,rfl,ha,_,p⟩:=j.i10 r' a8;refine⟨?_,?_⟩
    ·show b.T.length<B9 b.T b.N a/\B9 b.T b.N a<=b.T.length+b.N.length
     rw[hN a ha];have:=a0 a ha;omega
    ·intro k hk
     obtain⟨c,ai,rfl⟩:=List.mem_map.1 hk;show 1<=B9 b.T b.N c/\B9 b.T b.N c<=b.T.length+b.N.length;by_cases C:c∈b.T
     ·rw[MD C]
      have:=List.idxOf_lt_length_of_mem C;omega
     ·have J:=a6 c ((p c ai).resolve_left C)
      rw[hN c J];have:=a0 c J;omega
   ·show (b.R.map (GM b.T b.N)).Nodup
    rw[List.Nodup,List.pairwise_map];refine j.i11.imp_of_mem ?_;intro r1 r2 a9 aa a7;obtain⟨a1,P,rfl,ha1,_,ag⟩:=j.i10 r1 a9;obtain⟨a2,I,rfl,ha2,_,ah⟩:=j.i10 r2 aa;intro e;apply a7;have e1:B9 b.T b.N a1=B9 b.T b.N a2:=congrArg Prod.fst e;have e2:P.map (B9 b.T b.N)=I.map (B9 b.T b.N):=congrArg Prod.snd e;have R:∀c,(c∈b.T\/leftOf x c=true)->(c∈b.T\/c∈b.N):=fun c h=>h.imp id (a6 c)
    have an:∀{P I:List AP},(∀c∈P,c∈b.T\/c∈b.N)->(∀c∈I,c∈b.T\/c∈b.N)->P.map (B9 b.T b.N)=I.map (B9 b.T b.N)->P=I:=by
     intro P;induction P with
     | nil=>intro I _ _ e;cases I with
      | nil=>rfl
      | cons _ _=>cases e
     | cons c r ih=>intro I C J e;cases I with
      | nil=>cases e
      | cons d r2=>rw[List.map_cons,List.map_cons]at e;injection e with e1 e2;rw[T6 (C c oA) (J d oA) e1,ih (fun c p=>C c (by simp[p])) (fun c p=>J c (by simp[p])) e2]
    rw[T6 (.inr ha1) (.inr ha2) e1,an (fun c p=>R c (ag c p)) (fun c p=>R c (ah c p)) e2]
   ·intro i a4
    have a4:i<b.N.length:=a4;obtain⟨r,l,J⟩:=ho.mem b.N[i] (List.getElem_mem a4);refine⟨_,List.mem_map.2 ⟨r,l,rfl⟩,?_⟩;have:=ae i a4 r l;rw[J]at this;exact beq_iff_eq.1 (this.trans oA)
   ·intro i a5 al hj
    have hj:a5<b.N.length:=hj;show (b.R.map (GM b.T b.N)).findIdx (fun r=>r.1==b.T.length+1+i)<(b.R.map (GM b.T b.N)).findIdx (fun r=>r.1==b.T.length+1+a5);rw[ad i nX,ad a5 hj];exact ho.ord i a5 al _ _ (eG nX) (eG hj)
theorem TX{s:List UInt8}{g:PG}(i:Fc s=.ok g):g.Good:=by
 unfold Fc at i;cases j:tokens s with
 | error e=>rw[j]at i;cases i
 | ok l=>
  rw[j]at i;simp only at i;have I:Dh l:=by
   unfold tokens at j;split at j
   ·cases j
   ·exact Uv _ _ _ j
  cases o:FC l with
  | error e=>rw[o]at i;cases i
  | ok x=>rw[o]at i;obtain⟨p,t,C⟩:=kX I o;exact WR p t C i
theorem mH{a:AP}(h:CS a=true):∃c r,a=c::r/\Bo c=4/\(c::r).all CE=true/\(c::r).length<=24:=by
 cases a with
 | nil=>cases h
 | cons c r=>unfold CS Ek at h;simp only[Bool.and_eq_true,decide_eq_true_eq,beq_iff_eq]at h;obtain⟨⟨i,o⟩,l⟩:=h;refine⟨c,r,rfl,i,?_,l⟩;have j:r.all CE=true:=o;simp only[List.all_cons,j,Bool.and_true];simp[CE,i]
theorem XN{a:AP}(h:CO a=true):∃m,a=39::(m++[39])/\m.all Fg=true/\m≠[]/\m.length<23:=by
 cases a with
 | nil=>cases h
 | cons c r=>
  unfold CO at h;simp only[List.head?_cons,List.drop_succ_cons,List.drop_zero,Bool.and_eq_true,beq_iff_eq,decide_eq_true_eq,bne_iff_ne,ne_eq,Option.some.injEq,List.length_cons]at h;obtain⟨⟨rfl,⟨⟨o,i⟩,j⟩,p⟩,t⟩:=h;rw[Nat.add_comm,List.getElem?_cons_succ]at i;have l:Bt r<r.length:=(sG.1 i).1;refine⟨r.takeWhile Fg,?_,TR r,?_,?_⟩
  ·have:r=r.take (Bt r+1):=(Da nX).symm
   rw[List.take_succ_eq_append_getElem l,(sG.1 i).2]at this;have e:r.take (Bt r)=r.takeWhile Fg:=PK r;rw[e]at this;rw[<-this]
  ·intro e
   apply j;unfold Bt;rw[e];rfl
  ·show Bt r<23
   omega
namespace PG
end PG
namespace PG
end PG
namespace PG
variable {g:PG}
end PG
def Bf(S k:Nat):Nat:=S/2 ^ (64*k)%18446744073709551616
def nW(n:Nat):Nat:=(n+63)/64
def Lj(S k:Nat):Bf S k<18446744073709551616:=Nat.mod_lt _ nY
def Iw(S k j:Nat):(Bf S k).testBit j=(decide (j<64)&&S.testBit (64*k+j)):=by unfold Bf;rw[show (18446744073709551616:Nat)=2 ^ 64 from rfl,Nat.testBit_mod_two_pow,Nat.testBit_div_two_pow,Nat.add_comm]
def OP(S T k:Nat):Bf (S|||T) k=Bf S k|||Bf T k:=by apply Nat.eq_of_testBit_eq;intro j;rw[Nat.testBit_or,Iw,Iw,Iw,Nat.testBit_or];cases decide (j<64)<;>simp
def Pa{S n:Nat}(h:S<2 ^ n)(j:n<=i):S.testBit i=false:=Nat.testBit_lt_two_pow (A0 h (Nat.pow_le_pow_right nY j))
def RU{S T n:Nat}(i:S<2 ^ n)(j:T<2 ^ n):S|||T<2 ^ n:=Nat.or_lt_two_pow i j
def dL{n:Nat}(j:i<n):2 ^ i<2 ^ n:=Nat.pow_lt_pow_right nY j
def QW(i k:Nat):Bf (2 ^ i) k=if k=i/64 then 2 ^ (i%64) else 0:=by
 apply Nat.eq_of_testBit_eq;intro j;rw[Iw,Nat.testBit_two_pow];split
 ·rename_i o
  rw[Nat.testBit_two_pow];by_cases l:j<64
  ·rw[decide_eq_true l,Bool.true_and,decide_eq_decide]
   omega
  ·rw[decide_eq_false l,Bool.false_and]
   symm;rw[decide_eq_false_iff_not];omega
 ·rw[Nat.zero_testBit]
  by_cases l:j<64
  ·rw[decide_eq_true l,Bool.true_and,decide_eq_false_iff_not]
   omega
  ·rw[decide_eq_false l,Bool.false_and]
def kG(x j:Nat):x &&& 2 ^ j=if x.testBit j then 2 ^ j else 0:=by
 apply Nat.eq_of_testBit_eq;intro i;rw[Nat.testBit_and,Nat.testBit_two_pow];by_cases l:j=i
 ·subst l
  cases h:x.testBit j<;>simp[Nat.testBit_two_pow_self]
 ·rw[decide_eq_false l,Bool.and_false]
  split
  ·rw[Nat.testBit_two_pow_of_ne l]
  ·rw[Nat.zero_testBit]
def T4(S i:Nat):Bf S (i/64) &&& 2 ^ (i%64)=if S.testBit i then 2 ^ (i%64) else 0:=by rw[kG,Iw,decide_eq_true (by omega:i%64<64),Bool.true_and,show 64*(i/64)+i%64=i by omega]
def jT(S i:Nat):Bf (S|||2 ^ i) (i/64)=Bf S (i/64)|||2 ^ (i%64):=by rw[OP,QW,if_pos rfl]
def lz(S i k:Nat)(h:k≠i/64):Bf (S|||2 ^ i) k=Bf S k:=by rw[OP,QW,if_neg h,Nat.or_zero]
def YC{S n:Nat}(h:S<2 ^ n)(l:n%64≠0):Bf S (nW n-1) &&& (2 ^ (n%64)-1)=Bf S (nW n-1):=by
 apply Nat.eq_of_testBit_eq;intro j;rw[Nat.testBit_and,Nat.testBit_two_pow_sub_one,Iw];by_cases i:j<n%64
 ·rw[decide_eq_true i,Bool.and_true]
 ·rw[Pa h (by unfold nW;omega)]
  simp
def Qh(S i j:Nat):(Bf S (i/64)/2 ^ (i%64)).testBit j=(decide (j+i%64<64)&&S.testBit (i+j)):=by rw[Nat.testBit_div_two_pow,Iw,show 64*(i/64)+(j+i%64)=i+j by omega]
def Bs(n S:Nat):List Nat:=(List.range n).filter fun i=>S.testBit i
def LI(n S i:Nat):Option Nat:=((List.range n).filter fun j=>decide (i<=j)&&S.testBit j).head?
def Xc{n S:Nat}(C:k<n)(p:S.testBit k=true)(t:i<=k)(h:∀j,i<=j->j<k->S.testBit j=false):LI n S i=oM k:=by
 unfold LI;rw[show n=k+(n-k) by omega,List.range_add,List.filter_append,List.filter_eq_nil_iff.2,List.nil_append]
 ·rw[show n-k=(n-k-1)+1 by omega,List.range_succ_eq_map,List.map_cons,List.filter_cons,if_pos (by simp[p,t])]
  rfl
 ·intro j o
  rw[List.mem_range]at o;by_cases l:i<=j
  ·simp[h j l o]
  ·simp[l]
def YA{n S:Nat}(h:∀j,i<=j->j<n->S.testBit j=false):LI n S i=oN:=by
 unfold LI;rw[List.filter_eq_nil_iff.2]
 ·rfl
 ·intro j o
  rw[List.mem_range]at o;by_cases l:i<=j
  ·simp[h j l o]
  ·simp[l]
structure Am(X:Nat->Prop)(w w':oU):Prop where
 os:w'.os=w.os
 tape:w'.tape=w.tape
 output:w'.output=w.output
 size:w.heap.size<=w'.heap.size
 block:∀k,k<w.heap.size->¬X k->w'.heap[k]?=w.heap[k]?
variable{w':oU}
namespace Am
variable {X Y:Nat->Prop} {a b c:oU}
def refl(X:Nat->Prop)(w:oU):Am X w w:=⟨rfl,rfl,rfl,Ay _,fun _ _ _=>rfl⟩
def AJ(h:Below a a b):Am X a b:=⟨h.os,h.tape,h.output,h.size,fun k i _=>h.block k i⟩
def trans(h:Am X a b)(k:Am Y b c)(o:∀i,i<a.heap.size->Y i->X i):Am X a c:=
 ⟨k.os.trans h.os,k.tape.trans h.tape,k.output.trans h.output,AW h.size k.size,fun i j l=>(k.block i (A0 j h.size) (fun p=>l (o i j p))).trans (h.block i j l)⟩
def next(h:Am X a b)(k:Am X b c):Am X a c:=h.trans k fun _ _ h=>h
def mono(h:Am X a b)(j:∀i,X i->Y i):Am Y a b:=⟨h.os,h.tape,h.output,h.size,fun i l p=>h.block i l (fun o=>p (j i o))⟩
def alloc(h:Am X a b)(o:Obj):Am X a (b.alloc o):=h.next (AJ ⟨rfl,rfl,rfl,oA,fun k i=>Below.heap_alloc _ _ _ i⟩)
def drew(h:Am X a b):Am X a b.drew:=⟨h.os,h.tape,h.output,h.size,h.block⟩
def set(h:Am X a b){p:Addr}(i:a.heap.size<=p.block\/X p.block)(u:oV):Am X a (b.setCell p u):=
 ⟨h.os,h.tape,h.output,by simpa [World.setCell] using h.size,fun k l j=>(Below.heap_setCell _ _ _ _ (by rintro rfl;rcases i with i|i;omega;exact j i)).trans (h.block k l j)⟩
def Aj{g:Nat}(h:Am X a b)(i:Ah a g t cs)(j:¬X g):Ah b g t cs:=(h.block g i.lt j).trans i
def own{base:Nat}{size n:Nat}{v:oV}(h:Am X a b)(j:a.ownsRow base e size v n xs)(t:∀g,v.ownBlock=oM g->¬X g):b.ownsRow base e size v n xs:=by
 refine⟨j.1,?_⟩;rcases j.2 with p|⟨g,cap,l,rfl,o,i,rest⟩
 ·exact .inl p
 ·refine .inr ⟨g,cap,l,rfl,o,?_,rest⟩
  rw[h.block g (aG.1 i).1 (t g rfl),i]
def below(h:Am X a b)(l:B<=a.heap.size)(i:∀k,k<B->¬X k):Below B a b:=⟨h.os,h.tape,h.output,h.size,fun k j=>h.block k nX (i k j)⟩
end Am
structure AH where
 h:Nat
 wb:Nat
 n:Nat
variable{n:Nat}
def CW(n S:Nat):Array oV:=((List.range (nW n)).map fun k=>Value.int .u64 (Bf S k:Nat)).toArray
structure AQ(w:oU)(s:AH)(S:Nat):Prop where
 head:Ah w s.h 269 #[s.n,oG (s.wb,0) (nW s.n) (nW s.n)]
 words:Ah w s.wb 264 (CW s.n S)
 small:1<=s.n/\s.n<=4096
 fit:S<2 ^ s.n
variable{S:Nat}{s:AH}
def AH.v(s:AH):oV:=(s.h,0)
variable{v:oV}
def N7(n S k:Nat)(h:k<nW n):(CW n S)[k]?=oM (oH .u64 (Bf S k:Nat)):=by unfold CW;rw[List.getElem?_toArray,pG,List.getElem?_range h];rfl
def Ah.newAt{w:oU}{b:Nat}(i:w.heap.size=b):Ah (w.alloc (oP cs t)) b t cs:=by subst i;exact Ah.new w t cs
def Js{z:oV}{bytes:Nat}(I:P.underlying t=oM (.slice e))(h:(P.info? e).map (fun i=>(i.zero,i.size,i.bytes))=oM (oM z,1,bytes))(J:z.cells=#[z]){l:Int}(p:l=n)(hb:bytes*n<=281474976710656)(hn:n<=4611686018427387904)(y:oU) :
  (Instr.makeSlice t l l).run P y=.ok (oG (y,0) n n) (y.alloc (oP (Array.replicate n z) e)):=by
 obtain⟨i,o,R,T,U⟩:=info_parts h;subst p;have j:(i.bytes:Int)*(n:Int)<=281474976710656:=by rw[U,<-Int.natCast_mul];omega
 have C:=run_make (P:=P) y t e i z I o R oO oO n n nX (Int.le_refl _) j nX;rw[C,T,Int.toNat_natCast,Nat.mul_one,J];congr 4;unfold madeCells;apply Array.ext
 ·simp
 ·intro a0 h1 j
  simp[Nat.mod_one]
def lB(n:Nat):CW n 0=Array.replicate (nW n) (oH .u64 0):=by
 unfold CW;apply Array.ext
 ·simp
 ·intro j i l
  simp[Bf]
def Mm{w:oU}(i:1<=n)(j:n<=4096):() 184 #[n] w fun e w'=>e=oQ (AH.v ⟨w.heap.size+1,w.heap.size,n⟩)/\AQ w' ⟨w.heap.size+1,w.heap.size,n⟩ 0/\Below w w w':=by
 have l:=fun y=>Js (P:=Tryz.prog) (t:=267) (e:=264) (z:=oH .u64 0) (bytes:=8) Tryz.underlying267 nZ rfl (l:=((n:Int)+63)/64) (n:=nW n) (by unfold nW;omega) (by unfold nW;omega) (by unfold nW;omega) y
 rw[<-lB]at l;go_enter Tryz.func184,Tryz.ntmps184
 go_wp2;go_ret;refine⟨rfl,⟨?_,?_,⟨i,j⟩,Nat.two_pow_pos _⟩,?_⟩
 ·exact Ah.newAt oA
 ·exact(Ah.new w _ _).alloc _
 ·exact((Below.refl _ w).alloc (Ay _) _).alloc oA _
def NY(i:Nat)(j:i<9223372036854775808):bits .and oO (i:Int) 63=((i%64:Nat):Int):=by show IntKind.i64.wrap ((BitVec.ofInt 64 (i:Int) &&& BitVec.ofInt 64 ((63:Nat):Int)).toNat:Int)=_;rw[BitVec.toNat_and,ofInt_u64 i nX,ofInt_u64 63 nX,nat_mask6,IntKind.wrap_i64];omega
def TW(i:Nat):IntKind.u64.wrap (2 ^ min (IntKind.u64.wrap ((i%64:Nat):Int)).toNat 64)=((2 ^ (i%64):Nat):Int):=by
 have h:i%64<64:=by omega
 simp only[IntKind.wrap_u64];rw[show (((i%64:Nat):Int)%18446744073709551616).toNat=i%64 by omega,Nat.min_eq_left nX];have l:2 ^ (i%64)<2 ^ 64:=Nat.pow_lt_pow_right nY h;have j:((2:Int) ^ (i%64))=((2 ^ (i%64):Nat):Int):=by norm_cast
 rw[j];clear j;generalize 2 ^ (i%64)=p at *;omega
def OQ{a b:Bool}(h:a=b):Ending.returned (oK a)=Ending.returned (oK b):=by rw[h]
section
variable {w:oU} {s:AH} {S:Nat}
def AQ.later(h:AQ w s S)(i:Below w w w'):AQ w' s S:=⟨h.head.below i h.head.lt,h.words.below i h.words.lt,h.small,h.fit⟩
def AQ.drewN(h:AQ w s S)(n:Nat):AQ (w.drewN n) s S:=⟨h.head,h.words,h.small,h.fit⟩
def AQ.cells(h:AQ w s S):oT w (s.h,0)=oM (oH oO s.n)/\oT w (s.h,1)=oM (oG (s.wb,0) (nW s.n) (nW s.n)):=⟨h.head.cell 0,h.head.cell 1⟩
def AQ.word(h:AQ w s S)(i:k<nW s.n):oT w (s.wb,k)=oM (oH .u64 (Bf S k:Nat)):=(h.words.cell k).trans (N7 _ _ _ i)
def AQ.AA{X:Nat->Prop}(h:AQ w s S)(i:Am X w w')(j:¬X s.h)(l:¬X s.wb):AQ w' s S:=⟨i.Aj h.head j,i.Aj h.words l,h.small,h.fit⟩
def AQ.ne(h:AQ w s S):s.h≠s.wb:=Ah.Bb h.head h.words nY
set_option maxRecDepth 100000
def NH(h:AQ w s S):() 218 #[s.v] w fun e w'=>e=oQ s.n/\w'=w:=by
 obtain⟨i,-⟩:=h.cells;unfold AH.v;go_enter Tryz.func218,Tryz.ntmps218
 go_wp2;go_ret;exact⟨rfl,rfl⟩
def P4(h:AQ w s S)(l:i<s.n):() 185 #[s.v,i] w fun e w'=>e=oQ (.tuple #[oH oO ((i/64:Nat):Int),oH .u64 ((2 ^ (i%64):Nat):Int),oK true])/\w'=w:=by
 have j:=Hd (NH h);unfold AH.v at *;go_enter Tryz.func185,Tryz.ntmps185
 go_wp2_with (go_at_call 218;refine j.mono ?_;rintro e w' ⟨rfl,rfl⟩)
 rw[NY i (by have:=h.small;omega),TW]
 go_ret3
 exact⟨rfl,rfl⟩
def Xy(h:AQ w s S)(p:i<s.n):() 231 #[s.v,i] w fun e w'=>e=oQ (oK (S.testBit i))/\w'=w:=by
 have o:=Hd (P4 h p);obtain⟨-,c1⟩:=h.cells;have t:i/64<nW s.n:=by unfold nW;omega
 have c2:=h.word t;have l:=Lj S (i/64);have C:2 ^ (i%64)<18446744073709551616:=Nat.pow_lt_pow_right (a:=2) (m:=i%64) (n:=64) nY nX;have ha:=u64_and_nat _ _ l C;rw[T4]at ha;unfold AH.v at *;cases j:S.testBit i with
 | true=>
  rw[j,if_pos rfl]at ha;have I:¬(2 ^ (i%64)=0):=Nat.ne_of_gt (Nat.two_pow_pos _);generalize 2 ^ (i%64)=b at *;generalize Bf S (i/64)=u at *;generalize i/64=k at *;generalize nW s.n=m at *;clear j l;go_enter Tryz.func231,Tryz.ntmps231
  go_wp2_with (go_at_call 185;refine o.mono ?_;rintro e w' ⟨rfl,rfl⟩)
  go_ret;exact⟨OQ (by simp[I]),rfl⟩
 | false=>
  rw[j,if_neg oA]at ha;generalize 2 ^ (i%64)=b at *;generalize Bf S (i/64)=u at *;generalize i/64=k at *;generalize nW s.n=m at *;clear j l;go_enter Tryz.func231,Tryz.ntmps231
  go_wp2_with (go_at_call 185;refine o.mono ?_;rintro e w' ⟨rfl,rfl⟩)
  go_ret;exact⟨rfl,rfl⟩
def AQ.set(h:AQ w s S){k:Nat}(J:k<nW s.n){T:Nat}(t:T<2 ^ s.n)(o:∀j,j≠k->Bf T j=Bf S j){u:Int}(C:u=(Bf T k:Nat)):AQ (w.setCell (s.wb,k) (oH .u64 u)) s T:=by
 subst C;refine⟨h.head.Bz h.ne _,?_,h.small,t⟩;have p:=h.words.Ba k (oH .u64 (Bf T k:Nat));have e:(CW s.n S).setIfInBounds k (oH .u64 (Bf T k:Nat))=CW s.n T:=by
  unfold CW;apply Array.ext
  ·simp
  ·intro j I l
   rw[Array.getElem_setIfInBounds (by simpa using l)];simp only[List.getElem_toArray,List.getElem_map,List.getElem_range];split
   ·rename_i i
    subst i;rfl
   ·rename_i i
    rw[o j (fun e=>i e.symm)]
 rw[<-e];exact p
def AH.X(s:AH)(k:Nat):Prop:=k=s.wb
def M9(h:AQ w s S)(C:i<s.n):() 132 #[s.v,i] w fun e w'=>e=oQ (oK (!S.testBit i))/\AQ w' s (S|||2 ^ i)/\Am s.X w w':=by
 have p:=Hd (P4 h C);have T:=Hd h;obtain⟨-,c1⟩:=h.cells;have J:i/64<nW s.n:=by unfold nW;omega
 have c2:=h.word J;have o:=Lj S (i/64);have R:2 ^ (i%64)<18446744073709551616:=Nat.pow_lt_pow_right (a:=2) (m:=i%64) (n:=64) nY nX;have ha:=u64_and_nat _ _ o R;have P:=u64_or_nat _ _ o R;rw[T4]at ha;rw[<-jT]at P;have a0:=h.words.frozen (i/64);cases l:S.testBit i with
 | true=>
  have t:S|||2 ^ i=S:=by
   apply Nat.eq_of_testBit_eq;intro j;rw[Nat.testBit_or,Nat.testBit_two_pow];by_cases I:i=j
   ·subst I;rw[l];rfl
   ·rw[decide_eq_false I,Bool.or_false]
  rw[l,if_pos rfl]at ha;have a1:¬(2 ^ (i%64)=0):=Nat.ne_of_gt (Nat.two_pow_pos _);have a2:(((2 ^ (i%64):Nat):Int) != 0)=true:=by rw[bne_iff_ne];omega
  rw[t]at *;clear P t;unfold AH.v at *;generalize 2 ^ (i%64)=b at *;generalize Bf S (i/64)=u at *;generalize i/64=k at *;generalize nW s.n=m at *;clear l o h a0;go_enter Tryz.func132,Tryz.ntmps132
  go_wp2_with (go_at_call 185;refine p.mono ?_;rintro e w' ⟨rfl,rfl⟩)
  go_ret;exact⟨rfl,T,Am.refl _ _⟩
 | false=>
  have U:Hid (AQ (w.setCell (s.wb,i/64) (oH .u64 (Bf (S|||2 ^ i) (i/64):Nat))) s (S|||2 ^ i)):=Hd (h.set J (RU h.fit (dL C)) (fun j hj=>lz S i j hj) rfl);rw[l,if_neg oA]at ha;unfold AH.v at *;generalize 2 ^ (i%64)=b at *;generalize Bf S (i/64)=u at *;generalize Bf (S|||2 ^ i) (i/64)=u2 at *;generalize i/64=k at *;generalize nW s.n=m at *;clear l o h;go_enter Tryz.func132,Tryz.ntmps132
  go_wp2_with (go_at_call 185;refine p.mono ?_;rintro e w' ⟨rfl,rfl⟩)
  go_ret;exact⟨rfl,U,(Am.refl s.X _).set (p:=(s.wb,k)) (.inr rfl) _⟩
end
def gM:El Tryz.prog 267 264 1 8:=El.of (z:=oH .u64 0) Tryz.underlying267 nZ rfl nY
def DM(w:oU)(o:Obj):Below w w (w.alloc o):=(Below.refl _ w).alloc (Ay _) o
def XV{w:oU}{ad:Addr}{c:Nat}(l:∀y,Below w w y->Be y (oG (oM ad) n c) n 1 xs)(T:n<=1048576) :
  () 233 #[oG (oM ad) n c] w fun e w'=>∃A j,e=oQ (oG A n j)/\w'.ownsRow w 264 1 (oG A n j) n xs/\Below w w w':=by
 have I:=Hd l;have J:Hid (∀y:oU,y=w.alloc (oP #[] 264)->y.ownsRow w 264 1 (oG (w,0) 0 0) 0 []):=Hd (fun y P=>by rw[P];exact OA (W:=w) rfl (Ay _) nY rfl);have U:∀(y:oU) (ad:Addr) (n c:Nat),(binOp BinOp.eql 267 (oG (oM ad) n c) (oG oN 0 0)).run Tryz.prog y=.ok (oK false) y:=fun _ _ _ _=>by kernel_rfl
 clear l;go_enter Tryz.func233,Tryz.ntmps233
 go_wp2_with (
   at_builtin;refine DC gM (.tmp 5) (.tmp 6) rfl rfl (base:=w.heap.size) (n:=0) (m:=n) (N:=n) (xs:=[]) (news:=xs) rfl rfl (J _ rfl) (I _ (DM w _)) nX oB nX oA ?_
   intro C c2 t o p R;have i:Hid (t.ownsRow w 264 1 (oG C n c2) n xs/\Below w w t):=Hd ⟨by simpa using o,(DM w _).trans (p.below oA)⟩;clear o p R)
 go_ret;exact⟨_,_,rfl,i.1,i.2⟩
def TE{i:Type}{l:List i}{v:i}(h:l[k]?=oM v):l.set k v=l:=by obtain⟨j,rfl⟩:=sG.1 h;exact List.set_getElem_self j
section
variable {w:oU} {s:AH} {S:Nat}
def AQ.src(h:AQ w s S):Be w (oG (s.wb,0) (nW s.n) (nW s.n)) (nW s.n) 1 (CW s.n S).toList:=by
 refine Be.Aj (g:=s.wb) (t:=264) (by simpa using h.words) ?_ ?_
 ·unfold CW;simp
 ·intro u i
  unfold CW at i;simp only[List.mem_map]at i;obtain⟨k,_,rfl⟩:=i;rfl
def VS(h:AQ w s S):() 220 #[s.v,s.n] w fun e w'=>∃A c,e=oQ (oG A (nW s.n) c)/\w'.ownsRow w 264 1 (oG A (nW s.n) c) (nW s.n) (CW s.n S).toList/\Below w w w':=by
 have t:=Hd (XV (n:=nW s.n) (c:=nW s.n) (ad:=(s.wb,0)) (fun y hy=>(h.later hy).src) (by have:=h.small;unfold nW;omega));obtain⟨c0,c1⟩:=h.cells;have ag:=h.small;have hm:((s.n:Int)+63)/64=(nW s.n:Nat):=by unfold nW;omega
 have T:1<=nW s.n:=by unfold nW;omega
 have a0:=NY s.n nX;have P:s.n%64≠0->Bf S (nW s.n-1) &&& (2 ^ (s.n%64)-1)=Bf S (nW s.n-1):=YC h.fit;have a8:(CW s.n S).toList.length=nW s.n:=by unfold CW;simp
 have C:(CW s.n S).toList[nW s.n-1]?=oM (oH .u64 (Bf S (nW s.n-1):Nat)):=by have:=N7 s.n S (nW s.n-1) nX;simpa using this
 have U:=Lj S (nW s.n-1);have af:=TW s.n;have hp:2 ^ (s.n%64)<18446744073709551616:=Nat.pow_lt_pow_right (a:=2) (m:=s.n%64) (n:=64) nY nX;have aa:0<2 ^ (s.n%64):=Nat.two_pow_pos _;have hand:=u64_and_nat (Bf S (nW s.n-1)) (2 ^ (s.n%64)-1) U nX;have a2:w.frozen? (s.h,0)=false:=h.head.frozen 0;unfold AH.v;generalize (CW s.n S).toList=xs at *;generalize a9:nW s.n=m at *;generalize s.n%64=r at *;generalize 2 ^ r=p at *;generalize Bf S (m-1)=u at *;clear h;by_cases I:r=0
 ·subst I
  go_enter Tryz.func220,Tryz.ntmps220
  go_wp2_with (go_at_call 233;refine t.mono ?_;rintro e w' ⟨A,c,rfl,i,j⟩;have o:=Hd i;have l:=Hd j;clear i j)
  go_ret;exact⟨_,_,rfl,o,l⟩
 ·rw[P I]at hand
  have J:(0:Int)<(m:Int):=by omega
  have ad:IntKind.u64.wrap ((p:Int)-1)=((p-1:Nat):Int):=by rw[IntKind.wrap_u64];omega
  have ae:((r:Int) != 0)=true:=by rw[bne_iff_ne];omega
  have ab:0<m:=T;clear J;go_enter Tryz.func220,Tryz.ntmps220
  go_wp2_with (
    go_at_call 233;refine t.mono ?_;rintro e w' ⟨A,c,rfl,i,j⟩
    have o:=Hd i;have l:=Hd j;rcases Bj i with⟨_,h0⟩|⟨g,c',R,a4,a5,a6,a7,-⟩
    ·omega
    cases R
    have a1:=(Bh i (m-1) nX).trans C;have a3:=GD i (m-1);clear i j)
  go_ret;refine⟨_,_,rfl,?_,l.trans ?_⟩
  ·have h:=Ge o (m-1) nX (oH .u64 u)
   rwa [TE C]at h
  ·exact⟨rfl,rfl,rfl,by simp[World.setCell],fun k hk=>Below.heap_setCell _ _ _ _ (by show k≠g;omega)⟩
def aT(w:oU)(n:Int):() 220 #[.pointer oN,n] w fun e w'=>e=oQ (oG oN 0 0)/\w'=w:=by
 go_enter Tryz.func220,Tryz.ntmps220
 go_wp2;go_ret;exact⟨rfl,rfl⟩
def CY(S T j:Nat):Nat:=S|||(T%2 ^ (64*j))
def V3(T j k:Nat):Bf (T%2 ^ (64*j)) k=if k<j then Bf T k else 0:=by
 apply Nat.eq_of_testBit_eq;intro i;rw[Iw,Nat.testBit_mod_two_pow];split
 ·rename_i h
  rw[Iw];by_cases l:i<64
  ·rw[decide_eq_true (by omega:64*k+i<64*j),Bool.true_and]
  ·rw[decide_eq_false l,Bool.false_and,Bool.false_and]
 ·rename_i h
  rw[decide_eq_false (by omega:¬64*k+i<64*j),Bool.false_and,Bool.and_false,Nat.zero_testBit]
def JK(S T j k:Nat):Bf (CY S T j) k=if k<j then Bf S k|||Bf T k else Bf S k:=by
 unfold CY;rw[OP,V3];split
 ·rfl
 ·rw[Nat.or_zero]
def fZ{T:Nat}(i:S<2 ^ n)(l:T<2 ^ n)(j:Nat):CY S T j<2 ^ n:=RU i (Nat.lt_of_le_of_lt (Nat.mod_le _ _) l)
def SD(S T:Nat):CY S T 0=S:=by unfold CY;simp[Nat.mod_one]
def cU{T:Nat}(j:S<2 ^ n)(i:T<2 ^ n):CY S T (nW n)=S|||T:=by unfold CY;rw[Nat.mod_eq_of_lt];exact A0 i (Nat.pow_le_pow_right nY (by unfold nW;omega))
def dM{a b:Nat}(ha:a<18446744073709551616)(C:b<18446744073709551616):a &&& (18446744073709551615-b)=0<->b|||a=b:=by
 have o:∀i,(18446744073709551615-b).testBit i=(decide (i<64)&&!b.testBit i):=by intro i;have:=Nat.testBit_two_pow_sub_succ (n:=64) (x:=b) nX i;rw[show 2 ^ 64-(b+1)=18446744073709551615-b by omega]at this;exact this
 constructor
 ·intro h
  apply Nat.eq_of_testBit_eq;intro i;have j:=congrArg (fun x=>x.testBit i) h;simp only[Nat.testBit_and,o,Nat.zero_testBit]at j;rw[Nat.testBit_or];by_cases p:i<64
  ·rw[decide_eq_true p,Bool.true_and]at j
   cases l:a.testBit i
   ·rw[Bool.or_false]
   ·rw[l,Bool.true_and]at j
    cases t:b.testBit i
    ·rw[t]at j;cases j
    ·rfl
  ·rw[Pa (n:=64) ha nX,Bool.or_false]
 ·intro h
  apply Nat.eq_of_testBit_eq;intro i;have j:=congrArg (fun x=>x.testBit i) h;simp only[Nat.testBit_or]at j;rw[Nat.testBit_and,o,Nat.zero_testBit];cases l:a.testBit i
  ·rw[Bool.false_and]
  ·rw[l,Bool.or_true]at j
   rw[<-j];simp
def cO{T j:Nat}:CY S T (j+1)=CY S T j<->Bf S j|||Bf T j=Bf S j:=by
 constructor
 ·intro h
  have:=congrArg (fun x=>Bf x j) h;simp only[JK]at this;rwa [if_pos nX,if_neg nX]at this
 ·intro h
  apply Nat.eq_of_testBit_eq;intro i;have e:∀x:Nat,x.testBit i=(Bf x (i/64)).testBit (i%64):=fun x=>by rw[Iw,decide_eq_true (by omega:i%64<64),Bool.true_and,show 64*(i/64)+i%64=i by omega]
  rw[e,e,JK,JK];by_cases o:i/64=j
  ·rw[o,if_pos nX,if_neg nX,h]
  ·by_cases l:i/64<j
   ·rw[if_pos nX,if_pos l]
   ·rw[if_neg nX,if_neg l]
end
def V6{w:oU}{t:AH}{T:Nat}(h:AQ w s S)(ht:AQ w t T)(hn:t.n=s.n):() 189 #[s.v,t.v] w fun e w'=>e=oQ (oK (CY S T (nW s.n) != S))/\AQ w' s (CY S T (nW s.n))/\Am s.X w w':=by
 have HR:=Hd (NH h);have HW:=Hd (VS ht);rw[hn]at HW;have HH:=Hd h;have a1:=ht.fit;rw[hn]at a1;have al:=h.words.lt;have ar:=h.small;have ao:1<=nW s.n:=by unfold nW;omega
 have an:nW s.n<=64:=by unfold nW;omega
 have a7:∀k,k<nW s.n->(CW s.n T).toList[k]?=oM (oH .u64 (Bf T k:Nat)):=fun k o=>by have:=N7 s.n T k o;simpa using this
 have ak:(CW s.n T).toList.length=nW s.n:=by unfold CW;simp
 generalize (CW s.n T).toList=xs at *;have HG:=Hd a7;have aa:Hid (∀(y:oU) (X:Nat),AQ y s X->oT y (s.h,1)=oM (oG (s.wb,0) (nW s.n) (nW s.n))/\∀k,k<nW s.n->oT y ⟨s.wb,k,oN⟩=oM (oH .u64 (Bf X k:Nat))/\y.frozen? ⟨s.wb,k,oN⟩=false):=Hd (fun y X J=>⟨J.cells.2,fun k o=>⟨J.word o,J.words.frozen k⟩⟩);have ad:Hid (∀(y:oU) (X p k:Nat),AQ y s X->k<nW s.n->p<2 ^ s.n->(∀j,j≠k->Bf p j=Bf X j)->∀u:Int,u=(Bf p k:Nat)->AQ (y.setCell ⟨s.wb,k,oN⟩ (oH .u64 u)) s p):=Hd (fun y X p k J o hX h1 u hu=>J.set o hX h1 hu);have HF:Hid (∀j,CY S T j<2 ^ s.n):=Hd (fZ h.fit a1)
 unfold AH.v at *;clear h ht a7 a1;generalize hm:nW s.n=m at *;go_enter Tryz.func189,Tryz.ntmps189
 go_wp2_with (first
  | (go_at_call 218;refine HR.mono ?_;rintro e w' ⟨rfl,rfl⟩)
  | (
    go_at_call 220;refine HW.mono ?_;rintro e w1 ⟨A,c,rfl,a5,i⟩
    have ab:=Hd a5;have HB:=Hd i;rcases Bj a5 with⟨_,h0⟩|⟨g,c',he,ag,ah,ai,aj,-⟩
    · omega
    cases he
    clear a5 i))
 go_loopw [5,13] (fun ch a6 wr=>∃k:Nat,k<=m/\a6=oH oO k/\ch=oK (CY S T k != S)/\Hid (AQ wr s (CY S T k))/\Hid (Am s.X w1 wr)) (fun _ a6 _=>m-(intOf a6).toNat)
 case atStart=>exact⟨0,AX _,rfl,by rw[SD];simp,Hd (by rw[SD];exact HH.later HB),Hd (Am.refl _ _)⟩
 case round=>
  obtain⟨k,o,rfl,rfl,l,P⟩:=hrel;by_cases a2:k<m
  ·obtain⟨d1,d2⟩:=aa wr _ l
   obtain⟨d3,d4⟩:=d2 k a2;have C:=cO (S:=S) (T:=T) (j:=k);have af:oT wr ⟨g,k,oN⟩=oM (oH .u64 (Bf T k:Nat)):=by have hr:=P.own ab (fun b i=>by cases i;show ¬g=s.wb;omega);exact(Bh hr k nX).trans (HG k a2)
   have i:=Lj T k;have ha:=Lj S k;have e1:Bf (CY S T k) k=Bf S k:=by rw[JK,if_neg nX]
   have R:Bf (CY S T (k+1)) k=Bf S k|||Bf T k:=by rw[JK,if_pos nX]
   rw[e1]at d3;have hand:=u64_andNot_nat _ _ i ha;have ae:=u64_or_nat _ _ ha i;have U:=dM i ha;clear d2;by_cases I:Bf T k &&& (18446744073709551615-Bf S k)=0
   · have a3:=C.2 (U.1 I)
     rw[I]at hand;have a0:Hid (AQ wr s (CY S T (k+1))):=Hd (by rw[a3];exact l);have a4:(CY S T (k+1) != S)=(CY S T k != S):=by rw[a3]
     generalize (CY S T k != S)=ch at *;clear l a3 U C I e1 R ae;generalize Bf T k=b at *;generalize Bf S k=a at *;go_wp2_with fail
     go_roundw
     case rel=>exact⟨k+1,nX,oD,by rw[a4],a0,P⟩
     case measure=>simp[intOf];omega
   · have a9:¬CY S T (k+1)=CY S T k:=fun e=>I (U.2 (C.1 e))
     have a4:(CY S T (k+1) != S)=true:=by rw[bne_iff_ne];intro e;have e3:=congrArg (fun x=>Bf x k) e;simp only[R]at e3;exact a9 (C.2 e3)
     have a0:Hid (AQ (wr.setCell ⟨s.wb,k,oN⟩ (oH .u64 ((Bf S k|||Bf T k:Nat):Int))) s (CY S T (k+1))):=Hd (ad wr _ _ k l a2 (HF _) (fun j hj=>by
       rw[JK,JK];by_cases a8:j<k
       ·rw[if_pos nX,if_pos a8]
       ·rw[if_neg nX,if_neg a8]) _ (by rw[R]))
     have aq:(((Bf T k &&& (18446744073709551615-Bf S k):Nat):Int) != 0)=true:=by rw[bne_iff_ne];omega
     generalize (CY S T k != S)=ch at *;clear l U C I e1 R a9;generalize Bf T k &&& (18446744073709551615-Bf S k)=z at *;generalize Bf S k|||Bf T k=au at *;generalize Bf T k=b at *;generalize Bf S k=a at *;go_wp2_with fail
     go_roundw
     case rel=>exact⟨k+1,nX,oD,by rw[a4],a0,Hd (P.set (p:=⟨s.wb,k,oN⟩) (.inr rfl) _)⟩
     case measure=>simp[intOf];omega
  ·obtain rfl:k=m:=by omega
   go_wp2_with fail
   go_ret;exact⟨rfl,l,((Am.AJ HB).next P)⟩
theorem or_nil{w:oU}(h:AQ w s S):() 189 #[s.v,.pointer oN] w fun e w'=>e=oQ (oK false)/\w'=w:=by
 have j:=Hd (NH h);have l:=Hd (aT w s.n);unfold AH.v at *;clear h;go_enter Tryz.func189,Tryz.ntmps189
 go_wp2_with (first
  | (go_at_call 218;refine j.mono ?_;rintro e w' ⟨rfl,rfl⟩)
  | (go_at_call 220;refine l.mono ?_;rintro e p ⟨rfl,rfl⟩))
 go_loopw [5,13] (fun o i wr=>i=oH oO 0/\o=oK false/\wr=p) (fun _ i _=>0)
 case atStart=>exact⟨rfl,rfl,rfl⟩
 case round=>
  obtain⟨rfl,rfl,rfl⟩:=hrel;go_wp2_with fail
  go_ret;exact⟨rfl,rfl⟩
def EX(n S i:Nat):Int:=match LI n S i with|some k=>(k:Int)|none => -1
def Pj(p:k<n)(l:S.testBit k=true)(o:i<=k)(h:∀j,i<=j->j<k->S.testBit j=false):EX n S i=k:=by unfold EX;rw[Xc p l o h]
def Mh(h:∀j,i<=j->j<n->S.testBit j=false):EX n S i = -1:=by unfold EX;rw[YA h]
def mJ(i:Nat)(t:i<9223372036854775000):bits .or oO (i:Int) 63=((i/64*64+63:Nat):Int):=by
 show IntKind.i64.wrap ((BitVec.ofInt 64 (i:Int)|||BitVec.ofInt 64 ((63:Nat):Int)).toNat:Int)=_;have e:i|||63=i/64*64+63:=by
  apply Nat.eq_of_testBit_eq;intro j;have o:=Nat.testBit_two_pow_sub_one 6 j;rw[show 2 ^ 6-1=63 by rfl]at o;have p:i/64*64+63=2 ^ 6*(i/64)+63:=by omega
  rw[Nat.testBit_or,o,p,Nat.testBit_two_pow_mul_add _ nY,o];by_cases l:j<6
  ·rw[if_pos l,decide_eq_true l,Bool.or_true]
  ·rw[if_neg l,decide_eq_false l,Bool.or_false,show (64:Nat)=2 ^ 6 by rfl,Nat.testBit_div_two_pow,show j-6+6=j by omega]
 rw[BitVec.toNat_or,ofInt_u64 i nX,ofInt_u64 63 nX,e,IntKind.wrap_i64];omega
def YF(h:Bf S (i/64)/2 ^ (i%64)=0):∀j,i<=j->j<i/64*64+64->S.testBit j=false:=by intro j l o;have e:=Qh S i (j-i);rw[h,Nat.zero_testBit,decide_eq_true (by omega:j-i+i%64<64),Bool.true_and,show i+(j-i)=j by omega]at e;exact e.symm
def Ox{w:oU}{i0:Nat}(h:AQ w s S)(hi:i0<=5000):() 187 #[s.v,i0] w fun e w'=>e=oQ (oH oO (EX s.n S i0))/\w'=w:=by
 have U:=Hd (NH h);have HH:=Hd h;obtain⟨-,c1⟩:=h.cells;have ak:=h.small;unfold AH.v at *;clear h;go_enter Tryz.func187,Tryz.ntmps187
 go_wp2_with fail
 go_loopw [5] (fun i wr=>∃k:Nat,k<=9000/\i=oH oO k/\wr=w/\Hid (i0<=k/\∀j,i0<=j->j<k->S.testBit j=false)) (fun i _=>9000-(intOf i).toNat)
 case atStart=>exact⟨i0,nX,rfl,rfl,Hd ⟨Ay _,fun j o P=>by omega⟩⟩
 case round=>
  obtain⟨k,hk,rfl,rfl,I⟩:=hrel;by_cases aj:k<s.n
  ·have c2:=HH.word (k:=k/64) (by unfold nW;omega)
   have af:((k/64:Nat):Int)=(k:Int)/64:=by omega
   have ab:=NY k nX;have ag:k/64<nW s.n:=by unfold nW;omega
   have ad:=mJ k nX;have ae:((Bf S (k/64):Nat):Int)/2 ^ (k%64)=((Bf S (k/64)/2 ^ (k%64):Nat):Int):=by norm_cast
   have a2:Bf S (k/64)/2 ^ (k%64)<18446744073709551616:=Nat.lt_of_le_of_lt (Nat.div_le_self _ _) (Lj _ _);have a3:=Qh S k;have a4:Bf S (k/64)/2 ^ (k%64)=0->_:=YF;have HZ:=Hd a4;have HT:=Hd a3;clear a4 a3;generalize a1:Bf S (k/64)/2 ^ (k%64)=R at *;by_cases T:R=0
   ·have HB:Hid (i0<=k/64*64+64/\∀j,i0<=j->j<k/64*64+64->S.testBit j=false):=Hd ⟨by have:=I.1;omega,fun j o P=>by
     by_cases C:j<k
     ·exact I.2 j o C
     ·exact HZ T j nX P⟩
    have ai:((R:Int)==0)=true:=by rw[T];rfl
    clear a1 T HZ HT;go_wp2_with (go_at_call 218;refine U.mono ?_;rintro e w' ⟨rfl,rfl⟩)
    go_roundw
    case rel=>exact⟨k/64*64+64,nX,oD,trivial,HB⟩
    case measure=>simp[intOf];omega
   ·have ai:((R:Int)==0)=false:=by rw[bN];omega
    have aa:=Hd T;clear a1 T HZ;go_wp2_with (go_at_call 218;refine U.mono ?_;rintro e w' ⟨rfl,rfl⟩)
    rename oU=>wz
    clear ab ad af ag c2 U;go_loopw [5,6] (fun i r wr=>∃t x:Nat,t<=63/\i=oH oO ((k:Int)+t)/\r=oH .u64 x/\wr=wz/\¬(x=0)/\Hid (x=R/2 ^ t/\∀j,j<t->R.testBit j=false)) (fun i _ _=>k+64-(intOf i).toNat)
    case atStart=>exact⟨0,R,nX,oA,by rw[ae],rfl,aa,Hd ⟨oA,fun j C=>absurd C (Nat.not_lt_zero _)⟩⟩
    case round=>
     obtain⟨t,x,ht,rfl,rfl,rfl,an,l⟩:=hrel;have a7:x<18446744073709551616:=by rw[l.1];exact Nat.lt_of_le_of_lt (Nat.div_le_self _ _) a2
     have hand:bits .and .u64 (x:Int) 1=((x%2:Nat):Int):=by rw[<-nat_mask1];exact u64_and_nat x 1 a7 nY
     have a6:R.testBit t=decide (x%2=1):=by rw[l.1,Nat.testBit_eq_decide_div_mod_eq]
     have J:=Hd a6;clear a6;by_cases hq:x%2=0
     ·rw[hq,Int.natCast_zero]at hand
      have al:t+1<=63:=by
       by_cases p:t+1<=63
       ·exact p
       ·exfalso
        have o:t=63:=by omega
        have P:x<2:=by rw[l.1,o];exact Nat.div_lt_of_lt_mul nX
        omega
      have a9:Hid (x/2=R/2 ^ (t+1)/\∀j,j<t+1->R.testBit j=false):=Hd ⟨by rw[l.1,Nat.div_div_eq_div_mul,Nat.pow_succ],fun j C=>by
       by_cases he:j=t
       ·rw[he,J.out,hq];rfl
       ·exact l.2 j nX⟩
      have ah:¬x/2=0:=by omega
      clear l J a7 a2;go_wp2_with fail
      go_roundw
      case rel=>exact⟨t+1,x/2,nX,oD,oD,trivial,ah,a9⟩
      case measure=>simp[intOf];omega
     ·have a0:x%2=1:=by omega
      rw[a0,Int.natCast_one]at hand;have a8:Hid (EX s.n S i0=((k+t:Nat):Int)):=Hd (by
       have hT:=HT t;rw[J.out,decide_eq_true a0]at hT;have hS:S.testBit (k+t)=true:=by
        cases p:S.testBit (k+t)
        ·rw[p,Bool.and_false]at hT;cases hT
        ·rfl
       refine Pj ?_ hS (by have:=I.1;omega) ?_
       ·by_cases p:k+t<s.n
        ·exact p
        ·rw[Pa HH.fit nX]at hS;cases hS
       ·intro j o P
        by_cases C:j<k
        ·exact I.2 j o C
        ·have h3:=HT (j-k)
         rw[l.2 (j-k) nX,decide_eq_true (by
          by_cases p:j-k+k%64<64
          ·exact p
          ·exfalso
           have a5:=HT t;rw[J.out,decide_eq_true a0,decide_eq_false nX,Bool.false_and]at a5;cases a5),Bool.true_and,show k+(j-k)=j by omega]at h3
         exact h3.symm)
      clear l J;go_wp2_with fail
      go_ret;exact⟨by rw[a8.out];rfl,rfl⟩
  ·have HN:=Hd (Mh (n:=s.n) (S:=S) (i:=i0) (fun j o P=>I.2 j o nX))
   go_wp2_with (go_at_call 218;refine U.mono ?_;rintro e w' ⟨rfl,rfl⟩)
   go_ret;exact⟨by rw[HN.out];rfl,rfl⟩
def CG{w:oU}{size:Nat}(h:w.ownsRow B e size v n xs):∃A c,v=oG A n c:=by
 rcases Bj h with⟨rfl,rfl⟩|⟨b,c,rfl,_⟩
 ·exact⟨oN,0,rfl⟩
 ·exact⟨_,c,rfl⟩
section
variable {P:Program} {ops:Array Oper} {Q:Exit->Act->oU->Prop} {md:Region.Mode} {S:oU->Prop} {z:Nat}
def EM(P:Program)(md:Region.Mode)(ops:Array Oper)(Q:Exit->Act->oU->Prop)(S:oU->Prop)(z:Nat):Nat->Array Bool->Act->oU->Prop
 | 0,listed,a,w=>Region.ready md ops listed=[]/\Q .normal a w
 | f+1,listed,a,w=>(Region.ready md ops listed=[]->Q .normal a w)/\∀i∈Region.ready md ops listed,wpOp P ops Q i (fun l j=>(i≠z->S j)/\EM P md ops Q S z f (listed.setIfInBounds i true) l j) a w
theorem Tl:∀(f:Nat) (listed:Array Bool) (a:Act) (w:oU),EM P md ops Q S z f listed a w->wpAny P md ops Q f listed a w
 | 0,_,_,_,h=>h
 | f+1,_,_,_,h=>⟨h.1,fun i o=>wpOp_mono (fun j p l=>Tl f _ j p l.2) (h.2 i o)⟩
def DY{id:Nat}{w:oU}(z:Nat)(S:oU->Prop)(i:P.follows .mixedOrders=true)(h:EM P .any ops Q S z ops.size (Array.replicate ops.size false) a w.drew):(Code.region id ops true).wp P Q a w:=
 wp_region_any i (Tl _ _ _ _ h)
def Ym(hi:ops[i]?=oM J)(a7:∀(j:Nat) (o:Oper) cs b,ops[j]?=oM o->o.op ≠ .select cs b)(hQ:∀c a w,Q (.panic c) (a.put J.dst v) w->Q (.panic c) a w)(hz:Region.waitsFor md ops z i=true) :
  ∀(f:Nat) (listed:Array Bool) (a:Act) (w:oU),(∀j l,ops[j]?=oM l->j≠i->listed.getD j true=false->(∀e∈l.after,Region.binds md e=true->e.on≠i)->J.apart ops l=true) ->
   i∈Region.ready md ops listed->YieldsIf P ops S J v a->S w->EM P md ops Q S z f (listed.setIfInBounds i true) (a.put J.dst v) w->EM P md ops Q S z (f+1) listed a w:=by
 obtain⟨oz,a6,ez,aa,a9,af⟩:=Region.waitsFor_spec hz;have ag:∀(listed:Array Bool) (j:Nat) (l:Oper),i∈Region.ready md ops listed->ops[j]?=oM l->j∈Region.ready md ops listed->∀e∈l.after,Region.binds md e=true->e.on≠i:=fun listed j l p I C e he hb heq=>by
  obtain⟨_,ah,a5,a8⟩:=mem_ready.1 C;rw[I]at a5;cases a5
  have T:=a8 e he hb;rw[heq,getD_both (mem_ready.1 p).1]at T;cases T
 intro f;induction f with
 | zero=>
  intro listed a w _ p hy R H;refine⟨fun h=>(by rw[h]at p;cases p),fun j C=>?_⟩;by_cases t:j=i
  ·subst t;exact hy.wpOp hi R ⟨fun _=>R,H⟩
  ·have U:=ready_mono C t
   rw[H.1]at U;cases U
 | succ f ih=>
  intro listed a w a0 p hy R H;refine⟨fun h=>(by rw[h]at p;cases p),fun j C=>?_⟩;by_cases t:j=i
  ·subst t;exact hy.wpOp hi R ⟨fun _=>R,H⟩
  ·have T:=H.2 j (ready_mono C t)
   obtain⟨a2,l,I,_⟩:=mem_ready.1 C;have a4:=ag listed j l p I C;have ab:j≠z:=fun e=>by
    subst e;rw[I]at a6;cases a6
    exact a4 ez aa a9 af
   have U:=wpOp_putIf I (a0 j l I t a2 a4) (fun cs b=>a7 i J cs b hi) (fun cs b=>a7 j l cs b I) hQ hy T;refine wpOp_mono (fun a' w' h3=>⟨h3.2.1,ih (listed.setIfInBounds j true) a' w' (fun k ok hk ad a3 ae=>a0 k ok hk ad ?_ ae) (ready_mono p (Ne.symm t)) h3.1 (h3.2.1 ab) ?_⟩) U
   ·by_cases a1:j=k
    ·subst a1;exact a2
    ·rw[getD_set_ne true a1]at a3;exact a3
   ·rw[Array.setIfInBounds_comm _ _ t]
    exact h3.2.2
def JN(i:Nat){j:Oper}{l:List oV}{w:oU}(p:ops[i]?=oM j)(T:Region.noSelect ops=true)(J:Region.free md ops listed i=true)(R:(Region.ready md ops listed).contains i=true)(hz:Region.waitsFor md ops z i=true)
  (t:∀c a w,Q (.panic c) (a.put j.dst v) w->Q (.panic c) a w) (U:YieldsIf P ops S j v {tmps:=l.toArray,defers:=o}) (C:S w) (I:j.dst=oM d)
  (h:EM P md ops Q S z f (listed.setIfInBounds i true) {tmps:=(l.set d v).toArray,defers:=o} w):EM P md ops Q S z (f+1) listed {tmps:=l.toArray,defers:=o} w:=by
 refine Ym p (Region.noSelect_spec T) t hz f listed _ w (Region.free_spec p J) (by simpa using R) U C ?_;rw[I];simpa [Act.put] using h
def AF(i:Nat){j:Oper}{l:List oV}{w:oU}(t:S w)(h:EM P md ops Q S z f (listed.setIfInBounds i true) {tmps:=(l.set d v).toArray,defers:=o} w)
  (R:ops[i]?=oM j:=by rfl) (U:Region.noSelect ops=true:=by kernel_rfl) (J:Region.free md ops listed i=true:=by kernel_rfl) (T:(Region.ready md ops listed).contains i=true:=by kernel_rfl) (hz:Region.waitsFor md ops z i=true:=by kernel_rfl)
  (p:∀c a w,Q (.panic c) (a.put j.dst v) w->Q (.panic c) a w:=by exact fun _ _ _ h=>h) (hy:YieldsIf P ops S j v {tmps:=l.toArray,defers:=o}:=by(refine Or.inl ⟨oF,?_⟩;intro w C;(try dsimp only at C);go_simp;try with_reducible rfl)) (I:j.dst=oM d:=by rfl):EM P md ops Q S z (f+1) listed {tmps:=l.toArray,defers:=o} w:=
 JN i R U J T hz p hy t I h
def AD{i:Type}{x:i}{xs:List i}{y:i}:(x::xs).set (n+1) y=x::xs.set n y:=rfl
def AE{i:Type}{x:i}{xs:List i}{y:i}:(x::xs).set 0 y=y::xs:=rfl
structure Ml(l:List Nat):Prop
def jC{i:Nat}{r:List Nat}{j:Oper}{l:List oV}{w:oU}(m:Ml (i::r))(t:S w)(h:Ml r->EM P md ops Q S z f (listed.setIfInBounds i true) {tmps:=(l.set d v).toArray,defers:=o} w)
  (R:ops[i]?=oM j:=by rfl) (U:Region.noSelect ops=true:=by kernel_rfl) (J:Region.free md ops listed i=true:=by kernel_rfl) (T:(Region.ready md ops listed).contains i=true:=by kernel_rfl) (hz:Region.waitsFor md ops z i=true:=by kernel_rfl)
  (p:∀c a w,Q (.panic c) (a.put j.dst v) w->Q (.panic c) a w:=by exact fun _ _ _ h=>h) (hy:YieldsIf P ops S j v {tmps:=l.toArray,defers:=o}:=by(refine Or.inl ⟨oF,?_⟩;intro w C;(try dsimp only at C);go_simp;try with_reducible rfl)) (I:j.dst=oM d:=by rfl):EM P md ops Q S z (f+1) listed {tmps:=l.toArray,defers:=o} w:=
 JN i R U J T hz p hy t I (h ⟨⟩)
def Mi(l:List Nat){L:List oV}{w:oU}{q:Prop}(i:S w)(h:q)
 (g:Ml l->S w->q->EM P md ops Q S z f listed {tmps:=L.toArray,defers:=j} w:=by(intro m i h;repeat (refine jC m i ?_;(try simp only[AD,AE]);clear m;intro m));exact h):EM P md ops Q S z f listed {tmps:=L.toArray,defers:=j} w:=g ⟨⟩ i h
def Bm(i:Nat){o:Oper}{w:oU}(p:Region.ready md ops listed=[i])(J:ops[i]?=oM o)(I:o.guard=oN)
  (h:∀K:Act->oU->Prop,Shut (∀a w,(i≠z->S w)->EM P md ops Q S z f (listed.setIfInBounds i true) a w->K a w)->o.wp P a w K Q):EM P md ops Q S z (f+1) listed a w:=by
 refine⟨fun h0=>(by rw[p]at h0;cases h0),fun j l=>?_⟩;rw[p,mS]at l;subst l;unfold wpOp;rw[J];simp only;rw[if_pos (by unfold Region.wanted;rw[I])];exact .inl (h _ fun a w t C=>⟨t,C⟩)
def Hn(i:Nat){o:Oper}{l:List oV}{w:oU}(T:Region.ready md ops listed=[i])(R:ops[i]?=oM o)(J:o.guard=oN)(I:o.dst=oM d)
  (h:∀K:Act->oU->Prop,Shut (∀v w,(i≠z->S w)->EM P md ops Q S z f (listed.setIfInBounds i true) {tmps:=(l.set d v).toArray,defers:=j} w->K (({tmps:=l.toArray,defers:=j}:Act).put o.dst v) w)->o.wp P {tmps:=l.toArray,defers:=j} w K Q):EM P md ops Q S z (f+1) listed {tmps:=l.toArray,defers:=j} w:=by
 refine Bm i T R J fun K C=>h K fun v w p t=>?_
 refine C _ _ p ?_;rw[I];simpa [Act.put] using t
theorem D0{w:oU}(i:Region.ready md ops listed=[])(h:Q .normal a w):∀f,EM P md ops Q S z f listed a w
 | 0=>⟨i,h⟩
 | _+1=>⟨fun _=>h,by rw[i];simp⟩
end
variable{l:List oV}
structure Wd(I:oU->Prop) where
 w:oU
 ok:I w
variable{w:oU}
def T8{f:FuncId}{I:oU->Prop}(h:Calls P f args w fun e w'=>e=oQ v/\I w') :
 Calls P f args w fun e w'=>e=oQ v/\∃y:Wd I,w'=y.w:=h.mono fun _ _ ⟨i,j⟩=>⟨i,⟨_,j⟩,rfl⟩
def Y7(I:oU->Prop){id:Nat}{l:List Oper}(o:P.follows .mixedOrders=true)(j:Region.lexB .any l.toArray=true)
  (h0:I w.drew) (h:wpQuiet P l.toArray (fun w'=>∃y:Wd I,w'=y.w) (fun i=>∀w',(∃y:Wd I,w'=y.w)->Q .normal i w') l a):(Code.region id l.toArray true).wp P Q a w:=
 wp_region_quiet (C:=fun w'=>∃y:Wd I,w'=y.w) o j ⟨⟨w.drew,h0⟩,rfl⟩ (by simpa using h)
namespace Am
variable {X Y:Nat->Prop} {a b c:oU}
def put(h:Am X a b){r:Nat}(i:a.heap.size<=r\/X r)(o:Obj):Am X a (b.putObj r o):=
 ⟨h.os,h.tape,h.output,by simpa using h.size,fun k l j=>(World.putObj_heap_other (by rintro rfl;rcases i with i|i;omega;exact j i)).trans (h.block k l j)⟩
end Am
def BV(A:Nat->Prop)(w w':oU):Prop:=∀b,A b->w'.heap[b]?=w.heap[b]?
def BV.refl(A:Nat->Prop)(w:oU):BV A w w:=fun _ _=>rfl
def BV.trans{a b c:oU}(h:BV A a b)(k:BV A b c):BV A a c:=fun i j=>(k i j).trans (h i j)
def Jz{l:Type}(B:Nat)(J:l->(Nat->Prop)->oU->Prop):Prop:=
 ∀s A i W j,J s A W->Am (fun b=>B<=b/\A b) W j->(∀b,i b->A b\/W.heap.size<=b)->J s i j
def Seq{t:Type}(P:Program)(gf:Nat)(lb:Array oV)(C:t->Array oV)(xs:List t)(o:Nat->Prop)(w:oU):Prop:=
 ∀(l:Nat) (J:List t->(Nat->Prop)->oU->Prop) (p:Unit->(Nat->Prop)->oU->Prop) (W:oU),Am (fun _=>False) w W->Jz W.heap.size J->Jz W.heap.size p ->
  (∀pre x A j,J pre A j->pre++[x] <+: xs->(∀b,o b->A b)->(∀b,A b->b<j.heap.size)->YieldAt Fence.wide 0 P l (C x) j fun e i=>j.heap.size<=i.heap.size/\BV A j i/\((e=oQ (oK true)/\J (pre++[x]) A i)\/(e=oQ (oK false)/\p () A i))) ->
  J [] o W ->
  CallsIn Fence.wide 0 P gf (#[.func (.yield l) #[] #[]]++lb) W fun e i=>(∃v,e=oQ v)/\∃A:Nat->Prop,(∀b,o b->A b)/\(∀b,A b->b<i.heap.size)/\(J xs A i\/p () A i)
def WE{l:Type}(I:List l->(Nat->Prop)->oU->Prop)(j:Code->(Nat->Prop)->oU->Prop)(xs:List l)(A:Nat->Prop)(W:oU):Exit->Act->oU->Prop
 | .normal,_,i=>W.heap.size<=i.heap.size/\BV A W i/\I xs A i
 | .ret,_,i=>W.heap.size<=i.heap.size/\BV A W i/\j .ret A i
 | .exit id,_,i=>W.heap.size<=i.heap.size/\BV A W i/\j (.exit id) A i
 | .goto t,_,i=>W.heap.size<=i.heap.size/\BV A W i/\j (.goto t) A i
 | .panic _,_,_=>False
 | .outgrown,_,_=>False
def Jz.step{j:Type}{J:j->(Nat->Prop)->oU->Prop}(h:Jz B J){s:j}{i:oU}(o:J s A W)(l:Am (fun b=>B<=b/\A b) W i):J s A i:=h s A A W i o l (fun _=>.inl)
def Te{j:Type}(P:Program)(T:j->Array oV)(U:Array Tmp)(assign R:Code)(tmps:Array oV)(xs:List j)(t:Nat->Prop)(B:Nat)(I:List j->(Nat->Prop)->oU->Prop)(C:Code->(Nat->Prop)->oU->Prop):Prop:=
 ∀(l:Nat) (pre:List j) (x:j) (A:Nat->Prop) (W:oU),pre++[x] <+: xs->B<=l->l<W.heap.size->A l->(∀b,t b->A b)->(∀b,A b->b<W.heap.size)->I pre A W ->
  assign.wpIn (Fence.wide.inRound l) 0 P (Exit.then (fun J o=>W.heap.size<=o.heap.size/\BV A W o/\∀i,Am (·=l) o i->o.heap.size=i.heap.size->(∃r,i.heap[l]?=oM (.loop r)) ->
   R.wpIn (Fence.wide.inRound l) 0 P (WE I C (pre++[x]) A i) J i) (fun _ _ _=>False))
   {tmps:=(U.zip (T x)).foldl (fun a0 (p,v)=>a0.setIfInBounds p v) tmps,defers:=[]} W
section
variable {P:Program}
def rounds{a2:α->Array oV}{assign body:Code}{tmps:Array oV}{xs:List α}{A₀:Nat->Prop}{I:List α->(Nat->Prop)->oU->Prop}{Ix:Code->(Nat->Prop)->oU->Prop}
  (hI:Jz B I) (hIx:∀c,Jz B (fun(_:Unit)=>Ix c)) (hr:Te P a2 ps assign body tmps xs A₀ B I Ix) (aj:∀x,(a2 x).size=ps.size) {fn:FuncId} {l:Nat} (hl:B<=l) {X:Nat->Prop} (hX:X l)
  (j:LoopState->Option Code->Loop) (a6:j=fun st pe=>{state:=st,pending:=pe,fn,tmps,params:=ps,assign,body,defers:=D})
  {pre:List α} {x:α}   (hi:I pre (fun b=>A b\/X b) W) (a7:W.heap[l]?=oM (.loop (j .ready oN))) (hA:¬A l) (hp:pre++[x] <+: xs) (ak:∀b,A₀ b->A b) (ag:∀b,A b->b<W.heap.size) (ah:∀b,X b->b<W.heap.size) :
  YieldAt Fence.wide 0 P l (a2 x) W fun e R=>W.heap.size<=R.heap.size/\BV A W R/\(∀b,X b->b≠l->R.heap[b]?=W.heap[b]?) /\
   (
    (e=oQ (oK true)/\I (pre++[x]) (fun b=>A b\/X b) R/\R.heap[l]?=oM (.loop (j .ready oN))) \/
    (e=oQ (oK false)/\∃c,Ix c (fun b=>A b\/X b) R/\R.heap[l]?=oM (.loop (j .done (oM c))))):=by
 have af:l<W.heap.size:=(aG.1 a7).1;have hy:=run_yield (P:=P) (args:=a2 x) a7 (by rw[a6];exact aj x);rw[a6]at hy;refine⟨fn,_,assign,body,hy,roundIn_of_wpIn trivial (wpIn_mono (hr l pre x _ W hp hl af (.inr hX) (fun b p=>.inl (ak b p)) (fun b p=>p.elim (ag b) (ah b)) hi) ?_)⟩;intro e a' J h;cases e with
 | normal=>
  obtain⟨al,ad,p⟩:=h;have ab:J.heap[l]?=oM (.loop (j .ready oN)):=(ad l (.inr hX)).trans a7;have ai:l<J.heap.size:=(aG.1 ab).1;refine⟨_,run_beginRound ab (by rw[a6]),?_⟩;have a9:(J.putObj l (.loop {j .ready oN with state:=.busy})).heap[l]?=oM (.loop {j .ready oN with state:=.busy}):=World.putObj_heap_same ai;have ae:Am (·=l) J (J.putObj l (.loop {j .ready oN with state:=.busy})):=(Am.refl (·=l) J).put (r:=l) (.inr rfl) _;refine wpIn_mono (p _ ae oA ⟨_,a9⟩) ?_;have a4:∀(i:Option Code) (o:oU),(J.putObj l (.loop {j .ready oN with state:=.busy})).heap.size<=o.heap.size->BV (fun b=>A b\/X b) (J.putObj l (.loop {j .ready oN with state:=.busy})) o ->
     (Instr.endRound l i).run P o=.ok (oK i.isNone) (o.putObj l (.loop (j (if i.isNone then .ready else .done) i))) /\
     W.heap.size<=(o.putObj l (.loop (j (if i.isNone then .ready else .done) i))).heap.size /\
     BV A W (o.putObj l (.loop (j (if i.isNone then .ready else .done) i))) /\
     (∀b,X b->b≠l->(o.putObj l (.loop (j (if i.isNone then .ready else .done) i))).heap[b]?=W.heap[b]?) /\
     (o.putObj l (.loop (j (if i.isNone then .ready else .done) i))).heap[l]?=oM (.loop (j (if i.isNone then .ready else .done) i)) /\
     Am (fun b=>B<=b/\(A b\/X b)) o (o.putObj l (.loop (j (if i.isNone then .ready else .done) i))):=fun i o C t=>by
   have aa:o.heap[l]?=oM (.loop {j .ready oN with state:=.busy}):=(t l (.inr hX)).trans a9;have h1:=run_endRound (P:=P) i aa;have hx:∀b,(A b\/X b)->b≠l->(o.putObj l (.loop (j (if i.isNone then .ready else .done) i))).heap[b]?=W.heap[b]?:=fun b p a5=>(World.putObj_heap_other a5).trans ((t b p).trans ((World.putObj_heap_other a5).trans (ad b p)))
   refine⟨?_,?_,fun b p=>hx b (.inl p) (fun e=>hA (e▸p)),fun b p a5=>hx b (.inr p) a5,World.putObj_heap_same (aG.1 aa).1,(Am.refl _ _).put (.inr ⟨hl,.inr hX⟩) _⟩
   · rw[a6]at h1 ⊢;exact h1
   · rw[World.putObj_size]at C ⊢;omega
  intro e a3 o a1;cases e with
  | normal=>obtain⟨C,t,a0⟩:=a1;obtain⟨T,U,f3,f4,f5,f6⟩:=a4 oN o C t;exact⟨_,_,T,U,f3,f4,.inl ⟨rfl,hI.step a0 f6,f5⟩⟩
  | ret=>obtain⟨C,t,a0⟩:=a1;obtain⟨T,U,f3,f4,f5,f6⟩:=a4 (oM .ret) o C t;exact⟨_,_,T,U,f3,f4,.inr ⟨rfl,.ret,(hIx _).step (s:=()) a0 f6,f5⟩⟩
  | exit id=>obtain⟨C,t,a0⟩:=a1;obtain⟨T,U,f3,f4,f5,f6⟩:=a4 (oM (.exit id)) o C t;exact⟨_,_,T,U,f3,f4,.inr ⟨rfl,.exit id,(hIx _).step (s:=()) a0 f6,f5⟩⟩
  | goto a8=>obtain⟨C,t,a0⟩:=a1;obtain⟨T,U,f3,f4,f5,f6⟩:=a4 (oM (.goto a8)) o C t;exact⟨_,_,T,U,f3,f4,.inr ⟨rfl,.goto a8,(hIx _).step (s:=()) a0 f6,f5⟩⟩
  | panic ch=>exact a1.elim
  | outgrown=>exact a1.elim
 | ret=>exact h.elim
 | exit id=>exact h.elim
 | goto a8=>exact h.elim
 | panic ch=>exact h.elim
 | outgrown=>exact h.elim
def VE{g:Operand}{assign body:Code}{a:Act}{gf:Nat}{lb:Array oV}(hg:a.eval g=.func (.func gf) #[] lb)
  (eg:∀args w,(callFunc gf args).run P w=.ok (.enter gf args) w) {a4:α->Array oV} {xs:List α} {R:Nat->Prop} (ag:Seq P gf lb a4 xs R w) (a5:∀b,R b->b<w.heap.size) (af:∀x,(a4 x).size=ps.size)
  (I:List α->(Nat->Prop)->oU->Prop) (Ix:Code->(Nat->Prop)->oU->Prop) (hI:Jz w.heap.size I) (hIx:∀c,Jz w.heap.size (fun(_:Unit)=>Ix c)) (h0:I [] R w)
  (hround:Te P a4 ps assign body a.tmps xs R w.heap.size I Ix)
  (hdone:∀(D:Nat) (A:Nat->Prop) (W:oU),w.heap.size<=D->A D->(∀b,R b->A b)->(∀b,A b->b<W.heap.size)->I xs A W->W.heap[D]?=oM (.deferred (oM []))->Q .normal {a with defers:={target:=.collected D,args:=#[]}::a.defers} W)
  (hstop:∀(D:Nat) (c:Code) (A:Nat->Prop) (W:oU),w.heap.size<=D->A D->(∀b,R b->A b)->(∀b,A b->b<W.heap.size)->Ix c A W->W.heap[D]?=oM (.deferred (oM []))->c.wpIn Fence.wide 0 P Q {a with defers:={target:=.collected D,args:=#[]}::a.defers} W) :
  (Code.rangeFunc g ps assign body).wpIn Fence.wide 0 P Q a w:=by
 refine wpIn_rangeFunc ?_;intro fn al;rw[show Fence.wide.round=oN from rfl];obtain⟨J,a0⟩:∃J:LoopState->Option Code->Loop,J=fun st pe=>{state:=st,pending:=pe,fn,tmps:=a.tmps,params:=ps,assign,body,defers:=w.heap.size}:=⟨_,rfl⟩
 obtain⟨o,a1⟩:∃o,(w.alloc (.deferred (oM []))).alloc (.loop (J .ready oN))=o:=⟨_,rfl⟩
 have ad:o.heap[w.heap.size+1]?=oM (.loop (J .ready oN)):=by rw[<-a1];have:=World.alloc_heap_new (w.alloc (.deferred (oM []))) (.loop (J .ready oN));rwa [World.size_alloc]at this
 have ab:o.heap[w.heap.size]?=oM (.deferred (oM [])):=by rw[<-a1];exact(Below.heap_alloc _ _ _ oA).trans (World.alloc_heap_new w _)
 have a6:∀X,Am X w o:=fun X=>by rw[<-a1];exact((Am.refl X w).alloc _).alloc _
 have an:o.heap.size=w.heap.size+2:=by rw[<-a1];simp
 refine⟨w.heap.size+1,[{target:=.collected w.heap.size,args:=#[]}],o,{target:=.fn (.func gf) lb,args:=#[.func (.yield (w.heap.size+1)) #[] #[]]},o,gf,
  #[.func (.yield (w.heap.size+1)) #[] #[]]++lb,o,?_,?_,?_,?_,(fun h=>(by cases h)),?_⟩
 ·rw[<-a1,a0];exact run_enterLoop_outer _ _ _ _ _
 ·simp only[resolve,hg]
  simp[go_sem]
 ·intro f' ak;trivial
 ·simp[invoke,go_sem,eg]
 ·have hX:∀b,(b=w.heap.size\/b=w.heap.size+1)->w.heap.size<=b/\b<o.heap.size:=fun b i=>by omega
  refine(ag (w.heap.size+1)
   (fun pre A W=>I pre (fun b=>A b\/(b=w.heap.size\/b=w.heap.size+1)) W/\W.heap[w.heap.size+1]?=oM (.loop (J .ready oN))/\W.heap[w.heap.size]?=oM (.deferred (oM []))/\¬A w.heap.size/\¬A (w.heap.size+1))
   (fun _ A W=>∃c,Ix c (fun b=>A b\/(b=w.heap.size\/b=w.heap.size+1)) W/\W.heap[w.heap.size+1]?=oM (.loop (J .done (oM c)))/\W.heap[w.heap.size]?=oM (.deferred (oM []))/\¬A w.heap.size/\¬A (w.heap.size+1))
   o (a6 _) ?_ ?_ ?_ ?_).mono ?_
  ·rintro s A A' a2 U' ⟨C,l,j,t,p⟩ U T
   have u1:=(aG.1 l).1;have u2:=(aG.1 j).1;refine⟨hI s _ _ a2 U' C (U.mono fun ai hi=>⟨nX,.inl hi.2⟩) (fun b i=>?_),(U.block _ u1 (fun h=>p h.2)).trans l,(U.block _ u2 (fun h=>t h.2)).trans j,fun h=>?_,fun h=>?_⟩
   ·rcases i with i|i
    ·exact(T b i).elim (fun h=>.inl (.inl h)) .inr
    ·exact .inl (.inr i)
   ·exact(T _ h).elim t nX
   ·exact(T _ h).elim p nX
  ·rintro s A A' a2 U' ⟨c,C,l,j,t,p⟩ U T
   have u1:=(aG.1 l).1;have u2:=(aG.1 j).1;refine⟨c,hIx c s _ _ a2 U' C (U.mono fun ai hi=>⟨nX,.inl hi.2⟩) (fun b i=>?_),(U.block _ u1 (fun h=>p h.2)).trans l,(U.block _ u2 (fun h=>t h.2)).trans j,fun h=>?_,fun h=>?_⟩
   ·rcases i with i|i
    ·exact(T b i).elim (fun h=>.inl (.inl h)) .inr
    ·exact .inl (.inr i)
   ·exact(T _ h).elim t nX
   ·exact(T _ h).elim p nX
  ·rintro pre x A a2 ⟨C,l,j,t,p⟩ ae ah a3
   have u1:=(aG.1 l).1;have u2:=(aG.1 j).1;obtain⟨aa,aj,a8,a9,hy,hR⟩:=rounds (P:=P) (D:=w.heap.size) hI hIx hround af (l:=w.heap.size+1) nX (X:=fun b=>b=w.heap.size\/b=w.heap.size+1) (.inr rfl) J a0 C l p ae ah a3 (fun b i=>by rcases i with rfl|rfl<;>assumption);refine⟨aa,aj,a8,a9,hy,hR.mono ?_⟩;rintro e U' ⟨g1,g2,g3,g4⟩;refine⟨g1,g2,?_⟩;rcases g4 with⟨rfl,k1,k2⟩|⟨rfl,c,k1,k2⟩
   ·exact .inl ⟨rfl,k1,k2,(g3 _ (.inl rfl) nX).trans j,t,p⟩
   ·exact .inr ⟨rfl,c,k1,k2,(g3 _ (.inl rfl) nX).trans j,t,p⟩
  ·refine⟨hI [] R _ w o h0 (a6 _) (fun b i=>?_),ad,ab,fun h=>?_,fun h=>?_⟩
   ·rcases i with i|i
    ·exact .inl i
    ·exact .inr (hX b i).1
   ·have:=a5 _ h;omega
   ·have:=a5 _ h;omega
  ·rintro e W2 ⟨⟨v,rfl⟩,A,a7,a3,(⟨C,l,j,t,p⟩|⟨c,C,l,j,t,p⟩)⟩
   ·refine⟨oN,_,by have:=run_endLoop (P:=P) l (by rw[a0];simp);rw[a0]at this;exact this,hdone _ _ _ (Ay _) (.inr (.inl rfl)) (fun b i=>.inl (a7 b i)) (fun b i=>by have u1:=(aG.1 l).1;have u2:=(aG.1 j).1;rw[World.putObj_size];exact i.elim (a3 b) (fun i=>by rcases i with rfl|rfl<;>assumption)) (hI.step C ((Am.refl _ _).put (.inr ⟨nX,.inr (.inr rfl)⟩) _)) ((World.putObj_heap_other nX).trans j)⟩
   ·refine⟨oM c,_,by have:=run_endLoop (P:=P) l (by rw[a0];simp);rw[a0]at this;exact this,hstop _ c _ _ (Ay _) (.inr (.inl rfl)) (fun b i=>.inl (a7 b i)) (fun b i=>by have u1:=(aG.1 l).1;have u2:=(aG.1 j).1;rw[World.putObj_size];exact i.elim (a3 b) (fun i=>by rcases i with rfl|rfl<;>assumption)) ((hIx c).step (s:=()) C ((Am.refl _ _).put (.inr ⟨nX,.inr (.inr rfl)⟩) _)) ((World.putObj_heap_other nX).trans j)⟩
end
section
variable {P:Program} {ops:Array Oper} {Q:Exit->Act->oU->Prop} {md:Region.Mode} {S:oU->Prop} {Z:Nat->Bool}
def DJ(P:Program)(md:Region.Mode)(ops:Array Oper)(Q:Exit->Act->oU->Prop)(S:oU->Prop)(Z:Nat->Bool):Nat->Array Bool->Act->oU->Prop
 | 0,listed,a,w=>Region.ready md ops listed=[]/\Q .normal a w
 | f+1,listed,a,w=>(Region.ready md ops listed=[]->Q .normal a w)/\∀i∈Region.ready md ops listed,wpOp P ops Q i (fun l j=>(Z i=false->S w->S j)/\DJ P md ops Q S Z f (listed.setIfInBounds i true) l j) a w
theorem Qc:∀(f:Nat) (listed:Array Bool) (a:Act) (w:oU),DJ P md ops Q S Z f listed a w->wpAny P md ops Q f listed a w
 | 0,_,_,_,h=>h
 | f+1,_,_,_,h=>⟨h.1,fun i o=>wpOp_mono (fun j p l=>Qc f _ j p l.2) (h.2 i o)⟩
def lJ{id:Nat}(Z:Nat->Bool)(S:oU->Prop)(i:P.follows .mixedOrders=true)(h:DJ P .any ops Q S Z ops.size (Array.replicate ops.size false) a w.drew):(Code.region id ops true).wp P Q a w:=
 wp_region_any i (Qc _ _ _ _ h)
def bV{T:Oper}(hi:ops[i]?=oM T)(a7:∀(j:Nat) (o:Oper) cs b,ops[j]?=oM o->o.op ≠ .select cs b)(hQ:∀c a w,Q (.panic c) (a.put T.dst v) w->Q (.panic c) a w)(hz:((List.range ops.size).all fun z=>!Z z||Region.waitsFor md ops z i)=true) :
  ∀(f:Nat) (listed:Array Bool) (a:Act) (w:oU),(∀j l,ops[j]?=oM l->j≠i->listed.getD j true=false->(∀e∈l.after,Region.binds md e=true->e.on≠i)->T.apart ops l=true) ->
   i∈Region.ready md ops listed->YieldsIf P ops S T v a->S w->DJ P md ops Q S Z f (listed.setIfInBounds i true) (a.put T.dst v) w->DJ P md ops Q S Z (f+1) listed a w:=by
 have ah:∀(listed:Array Bool) (j:Nat) (l:Oper),i∈Region.ready md ops listed->ops[j]?=oM l->j∈Region.ready md ops listed->∀e∈l.after,Region.binds md e=true->e.on≠i:=fun listed j l p I J e he hb heq=>by
  obtain⟨_,ai,a5,a8⟩:=mem_ready.1 J;rw[I]at a5;cases a5
  have t:=a8 e he hb;rw[heq,getD_both (mem_ready.1 p).1]at t;cases t
 intro f;induction f with
 | zero=>
  intro listed a w _ p hy R H;refine⟨fun h=>(by rw[h]at p;cases p),fun j J=>?_⟩;by_cases C:j=i
  ·subst C;exact hy.wpOp hi R ⟨fun _ _=>R,H⟩
  ·have U:=ready_mono J C
   rw[H.1]at U;cases U
 | succ f ih=>
  intro listed a w a0 p hy R H;refine⟨fun h=>(by rw[h]at p;cases p),fun j J=>?_⟩;by_cases C:j=i
  ·subst C;exact hy.wpOp hi R ⟨fun _ _=>R,H⟩
  ·have t:=H.2 j (ready_mono J C)
   obtain⟨a2,l,I,_⟩:=mem_ready.1 J;have a4:=ah listed j l p I J;have ad:Z j=false:=by
    cases hZ:Z j with
    | false=>rfl
    | true=>
     have ab:j<ops.size:=(aG.1 I).1;have t:=List.all_eq_true.1 hz j (List.mem_range.2 ab);rw[hZ]at t;simp only[Bool.not_true,Bool.false_or]at t;obtain⟨oz,a6,ez,aa,a9,ag⟩:=Region.waitsFor_spec t;rw[I]at a6;cases a6
     exact absurd ag (a4 ez aa a9)
   have U:=wpOp_putIf I (a0 j l I C a2 a4) (fun cs b=>a7 i T cs b hi) (fun cs b=>a7 j l cs b I) hQ hy t;refine wpOp_mono (fun a' w' h3=>⟨h3.2.1,ih (listed.setIfInBounds j true) a' w' (fun k ok hk ae a3 af=>a0 k ok hk ae ?_ af) (ready_mono p (Ne.symm C)) h3.1 (h3.2.1 ad R) ?_⟩) U
   ·by_cases a1:j=k
    ·subst a1;exact a2
    ·rw[getD_set_ne true a1]at a3;exact a3
   ·rw[Array.setIfInBounds_comm _ _ C]
    exact h3.2.2
def Mf(i:Nat){j:Oper}(p:ops[i]?=oM j)(T:Region.noSelect ops=true)(J:Region.free md ops listed i=true)(R:(Region.ready md ops listed).contains i=true)(hz:((List.range ops.size).all fun z=>!Z z||Region.waitsFor md ops z i)=true)
  (t:∀c a w,Q (.panic c) (a.put j.dst v) w->Q (.panic c) a w) (U:YieldsIf P ops S j v {tmps:=l.toArray,defers:=o}) (C:S w) (I:j.dst=oM d)
  (h:DJ P md ops Q S Z f (listed.setIfInBounds i true) {tmps:=(l.set d v).toArray,defers:=o} w):DJ P md ops Q S Z (f+1) listed {tmps:=l.toArray,defers:=o} w:=by
 refine bV p (Region.noSelect_spec T) t hz f listed _ w (Region.free_spec p J) (by simpa using R) U C ?_;rw[I];simpa [Act.put] using h
def bW(hi:ops[i]?=oM J)(a5:∀(j:Nat) (o:Oper) cs b,ops[j]?=oM o->o.op ≠ .select cs b)(hQ:∀c a w,Q (.panic c) (a.put J.dst v) w->Q (.panic c) a w) :
  ∀(f:Nat) (listed:Array Bool) (a:Act) (w:oU),(∀j l,ops[j]?=oM l->j≠i->listed.getD j true=false->(∀e∈l.after,Region.binds md e=true->e.on≠i)->J.apart ops l=true) ->
   i∈Region.ready md ops listed->YieldsIf P ops (fun _=>True) J v a->DJ P md ops Q S Z f (listed.setIfInBounds i true) (a.put J.dst v) w->DJ P md ops Q S Z (f+1) listed a w:=by
 have aa:∀(listed:Array Bool) (j:Nat) (l:Oper),i∈Region.ready md ops listed->ops[j]?=oM l->j∈Region.ready md ops listed->∀e∈l.after,Region.binds md e=true->e.on≠i:=fun listed j l p I C e he hb heq=>by
  obtain⟨_,ab,a4,a6⟩:=mem_ready.1 C;rw[I]at a4;cases a4
  have R:=a6 e he hb;rw[heq,getD_both (mem_ready.1 p).1]at R;cases R
 intro f;induction f with
 | zero=>
  intro listed a w _ p U H;refine⟨fun h=>(by rw[h]at p;cases p),fun j C=>?_⟩;by_cases t:j=i
  ·subst t;exact U.wpOp hi trivial ⟨fun _ h=>h,H⟩
  ·have T:=ready_mono C t
   rw[H.1]at T;cases T
 | succ f ih=>
  intro listed a w a0 p U H;refine⟨fun h=>(by rw[h]at p;cases p),fun j C=>?_⟩;by_cases t:j=i
  ·subst t;exact U.wpOp hi trivial ⟨fun _ h=>h,H⟩
  ·have R:=H.2 j (ready_mono C t)
   obtain⟨a2,l,I,_⟩:=mem_ready.1 C;have a9:=aa listed j l p I C;have T:=wpOp_putIf I (a0 j l I t a2 a9) (fun cs b=>a5 i J cs b hi) (fun cs b=>a5 j l cs b I) hQ U R;refine wpOp_mono (fun a' w' h3=>⟨h3.2.1,ih (listed.setIfInBounds j true) a' w' (fun k ok hk a7 a3 a8=>a0 k ok hk a7 ?_ a8) (ready_mono p (Ne.symm t)) h3.1 ?_⟩) T
   ·by_cases a1:j=k
    ·subst a1;exact a2
    ·rw[getD_set_ne true a1]at a3;exact a3
   ·rw[Array.setIfInBounds_comm _ _ t]
    exact h3.2.2
def MJ(i:Nat){j:Oper}(p:ops[i]?=oM j)(R:Region.noSelect ops=true)(I:Region.free md ops listed i=true)(J:(Region.ready md ops listed).contains i=true)
  (t:∀c a w,Q (.panic c) (a.put j.dst v) w->Q (.panic c) a w) (T:YieldsIf P ops (fun _=>True) j v {tmps:=l.toArray,defers:=o}) (C:j.dst=oM d)
  (h:DJ P md ops Q S Z f (listed.setIfInBounds i true) {tmps:=(l.set d v).toArray,defers:=o} w):DJ P md ops Q S Z (f+1) listed {tmps:=l.toArray,defers:=o} w:=by
 refine bW p (Region.noSelect_spec R) t f listed _ w (Region.free_spec p I) (by simpa using J) T ?_;rw[C];simpa [Act.put] using h
def Il(i:Nat){o:Oper}(p:Region.ready md ops listed=[i])(J:ops[i]?=oM o)(I:o.guard=oN)
  (h:∀K:Act->oU->Prop,Shut (∀a w',(Z i=false->S w->S w')->DJ P md ops Q S Z f (listed.setIfInBounds i true) a w'->K a w')->o.wp P a w K Q):DJ P md ops Q S Z (f+1) listed a w:=by
 refine⟨fun h0=>(by rw[p]at h0;cases h0),fun j l=>?_⟩;rw[p,mS]at l;subst l;unfold wpOp;rw[J];simp only;rw[if_pos (by unfold Region.wanted;rw[I])];exact .inl (h _ fun a w t C=>⟨t,C⟩)
def JY(i:Nat){o:Oper}(T:Region.ready md ops listed=[i])(R:ops[i]?=oM o)(J:o.guard=oN)(I:o.dst=oM d)
  (h:∀K:Act->oU->Prop,Shut (∀v w',(Z i=false->S w->S w')->DJ P md ops Q S Z f (listed.setIfInBounds i true) {tmps:=(l.set d v).toArray,defers:=j} w'->K (({tmps:=l.toArray,defers:=j}:Act).put o.dst v) w')->o.wp P {tmps:=l.toArray,defers:=j} w K Q):DJ P md ops Q S Z (f+1) listed {tmps:=l.toArray,defers:=j} w:=by
 refine Il i T R J fun K C=>h K fun v w p t=>?_
 refine C _ _ p ?_;rw[I];simpa [Act.put] using t
def Ug(i j:Nat)(p:Region.ready md ops listed=[i,j])(t:wpOp P ops Q i (fun o w'=>(Z i=false->S w->S w')/\DJ P md ops Q S Z f (listed.setIfInBounds i true) o w') a w)
  (C:wpOp P ops Q j (fun o w'=>(Z j=false->S w->S w')/\DJ P md ops Q S Z f (listed.setIfInBounds j true) o w') a w):DJ P md ops Q S Z (f+1) listed a w:=by
 refine⟨fun h0=>(by rw[p]at h0;cases h0),fun k l=>?_⟩;rw[p]at l;rcases List.mem_cons.1 l with rfl|l
 ·exact t
 ·rw[mS]at l
  subst l;exact C
def NK(i:Nat){o:Oper}(R:ops[i]?=oM o)(J:o.guard=oN)(I:o.dst=oM d)
  (h:∀K:Act->oU->Prop,Shut (∀v w',(Z i=false->S w->S w')->DJ P md ops Q S Z f (listed.setIfInBounds i true) {tmps:=(l.set d v).toArray,defers:=j} w'->K (({tmps:=l.toArray,defers:=j}:Act).put o.dst v) w')->o.wp P {tmps:=l.toArray,defers:=j} w K Q) :
  wpOp P ops Q i (fun p w'=>(Z i=false->S w->S w')/\DJ P md ops Q S Z f (listed.setIfInBounds i true) p w') {tmps:=l.toArray,defers:=j} w:=by
 unfold wpOp;rw[R];simp only;rw[if_pos (by unfold Region.wanted;rw[J])];refine .inl (h _ fun v w' t C=>?_);rw[I];exact⟨t,by simpa [Act.put] using C⟩
theorem Ou(i:Region.ready md ops listed=[])(h:Q .normal a w):∀f,DJ P md ops Q S Z f listed a w
 | 0=>⟨i,h⟩
 | _+1=>⟨fun _=>h,by rw[i];simp⟩
end
section
set_option maxRecDepth 1000000
def WX(f:Func):List UInt8:=match f.body with|some (.seq _ (.seq (.region _ o _) _))=>(match o[0]?.map Oper.op with|some (.call c)=>(match c.args[0]? with|some (Operand.const (Value.string s))=>s.data.toList|_=>[])|_=>[])|_=>[]
noncomputable def G4:List UInt8:=WX Tryz.f14
def Pv(g:PG):Bool:=g.T.length==38&&(g.T++g.N)[17]?==oM [39,60,60,45,39]&&(g.T++g.N)[g.s-1]?==oM [117,110,105,116]&&decide (1<=g.s)&&decide (g.s<=g.T.length+g.N.length)
def Y6:(match Fc G4 with | .ok g=>Pv g | .error _=>false)=true:=by decide +kernel
theorem WT:∃g,Fc G4=.ok g/\Pv g=true:=by
 have h:=Y6;cases i:Fc G4 with
 | error e=>rw[i]at h;cases h
 | ok g=>rw[i]at h;exact⟨g,rfl,h⟩
end
def CB:List (List UInt8):=[[],[38,38],[124,124],[59,59],[59],[38],[124],[40],[41],[60],[62],[62,62],[60,60],[60,60,45],[60,38],[62,38],[60,62],[62,124]]
def Co:List (List UInt8):=[[105,102],[116,104,101,110],[101,108,115,101],[101,108,105,102],[102,105],[100,111],[100,111,110,101],[99,97,115,101],[101,115,97,99],[119,104,105,108,101],[117,110,116,105,108],[102,111,114],[123],[125],[33],[105,110]]
def bs(l:List UInt8):ByteArray:=⟨l.toArray⟩
def D9(w:oU):Prop:=(∀k (h:k<CB.length),oT w (0,k)=oM (oJ (bs CB[k])))/\(∀k (h:k<Co.length),oT w (1,k)=oM (oJ (bs Co[k])))
def D9.later(h:D9 w)(j:Below w w w'):D9 w':=
 ⟨fun k i=>(j.cell (p:=⟨0,k,oN⟩) (World.block_lt_of_cell? w _ (h.1 k i))).trans (h.1 k i),fun k i=>(j.cell (p:=⟨1,k,oN⟩) (World.block_lt_of_cell? w _ (h.2 k i))).trans (h.2 k i)⟩
def Hk(op:Int):ByteArray:=if op<0 then bs [] else bs (CB.getD op.toNat [])
def Tb(op:Int)(h:D9 w):() 47 #[op] w fun e w'=>e=oQ (oJ (Hk op))/\w=w':=by
 unfold Hk;by_cases h0:op<0
 ·rw[if_pos h0]
  go_enter Tryz.func47,Tryz.ntmps47
  go_wp2;go_ret;exact⟨rfl,rfl⟩
 ·rw[if_neg h0]
  obtain⟨k,rfl⟩:∃k:Nat,op=k:=⟨op.toNat,nX⟩
  by_cases o:18<=k
  ·have l:(18:Int)<=(k:Int):=by omega
   have i:CB.getD (k:Int).toNat []=[]:=by rw[dG,nG (by simp[CB];omega)];rfl
   rw[i];go_enter Tryz.func47,Tryz.ntmps47
   go_wp2;go_ret;exact⟨rfl,rfl⟩
  ·have l:¬(18:Int)<=(k:Int):=by omega
   have C:(k:Int)<18:=by omega
   have j:k<CB.length:=by show k<18;omega
   have p:=h.1 k j;have i:CB.getD (k:Int).toNat []=CB[k]:=by rw[dG,Int.toNat_natCast,eG j];rfl
   rw[i];generalize bs CB[k]=t at *;go_enter Tryz.func47,Tryz.ntmps47
   go_wp2;go_ret;exact⟨rfl,rfl⟩
def Gr(op:Int):Int:=if 1<=op/\op<=17 then 5+op else 0
def ZO(op:Int):(Hk op).toList.isEmpty=!decide (1<=op/\op<=17):=by
 rw[Lib.toList_data];unfold Hk;by_cases h0:op<0
 ·rw[if_pos h0,decide_eq_false nX];rfl
 ·rw[if_neg h0]
  obtain⟨k,rfl⟩:∃k:Nat,op=k:=⟨op.toNat,nX⟩
  by_cases i:18<=k
  ·rw[dG,nG (by simp[CB];omega),decide_eq_false nX]
   rfl
  ·have this:(List.range 18).all (fun j:Nat=>(bs (CB.getD (j:Int).toNat [])).data.toList.isEmpty==!decide (1<=(j:Int)/\(j:Int)<=17))=true:=by decide +kernel
   exact beq_iff_eq.1 (List.all_eq_true.1 this k (List.mem_range.2 nX))
def UT(op:Int)(h:D9 w):() 26 #[op] w fun e w'=>e=oQ (oH oO (Gr op))/\w=w':=by
 have j:=Hd (Tb op h);have l:=ZO op;unfold Gr;generalize Hk op=t at *;by_cases i:1<=op/\op<=17
 ·rw[if_pos i]
  rw[decide_eq_true i]at l;obtain⟨a,b⟩:=i;go_enter Tryz.func26,Tryz.ntmps26
  go_wp2_with (go_at_call 47;refine j.mono ?_;rintro e w' ⟨rfl,rfl⟩)
  go_ret;exact⟨rfl,rfl⟩
 ·rw[if_neg i]
  rw[decide_eq_false i]at l;clear i;go_enter Tryz.func26,Tryz.ntmps26
  go_wp2_with (go_at_call 47;refine j.mono ?_;rintro e w' ⟨rfl,rfl⟩)
  go_ret;exact⟨rfl,rfl⟩
def Lo(s:ByteArray):Int:=if Co.findIdx (fun l=>(bs l).toList==s.toList)<16 then 23+(Co.findIdx (fun l=>(bs l).toList==s.toList):Nat) else 0
def bJ(s:ByteArray)(h:D9 w):() 104 #[oJ s] w fun e w'=>e=oQ (oH oO (Lo s))/\w=w':=by
 have T:=Hd h.2;clear h;go_enter Tryz.func104,Tryz.ntmps104
 go_wp2
 go_loop [4] (fun i=>∃k:Nat,k<=16/\i=oH oO k/\Hid (∀j (o:j<Co.length),j<k->((bs Co[j]).toList==s.toList)=false)) (fun i=>16-(intOf i).toNat)
 case atStart=>exact⟨0,nX,rfl,Hd (fun j o h=>absurd h (Nat.not_lt_zero _))⟩
 case round=>
  obtain⟨k,hk,rfl,t⟩:=hrel;by_cases R:k<16
  ·have P:k<Co.length:=R
   have hc:=T k P;cases J:((bs Co[k]).toList==s.toList) with
   | true=>
    have p:Hid (Lo s=23+(k:Int)):=Hd (by
     have C:Co.findIdx (fun l=>(bs l).toList==s.toList)=k:=by rw[List.findIdx_eq P];exact⟨J,fun j o=>t j nX o⟩
     unfold Lo;rw[C,if_pos R])
    generalize bs Co[k]=a0 at *;go_wp2;go_ret;rw[p.out];exact⟨rfl,rfl⟩
   | false=>
    have p:Hid (∀j (o:j<Co.length),j<k+1->((bs Co[j]).toList==s.toList)=false):=Hd (fun j o h=>by
     rcases Nat.lt_or_ge j k with I|I
     ·exact t j o I
     ·obtain rfl:j=k:=by omega
      exact J)
    generalize bs Co[k]=a0 at *;go_wp2
    go_round
    case rel=>exact⟨k+1,nX,oD,p⟩
    case measure=>simp[intOf];omega
  ·have p:Hid (Lo s=0):=Hd (by
    have C:Co.findIdx (fun l=>(bs l).toList==s.toList)=Co.length:=by rw[List.findIdx_eq_length];intro x U;obtain⟨j,o,rfl⟩:=List.getElem_of_mem U;exact t j o (by have:Co.length=16:=rfl;omega)
    unfold Lo;rw[C,if_neg nY])
   obtain rfl:k=16:=by omega
   go_wp2;go_ret;rw[p.out];exact⟨rfl,rfl⟩
def Ms(t:Int):ByteArray:=if t=1 then⟨#[39,39]⟩ else if t=2 then⟨#[120,61]⟩ else if t=3 then⟨#[120]⟩ else if t=4 then⟨#[49]⟩ else if t=5 then⟨#[10]⟩ else
 if 23<=t/\t<=38 then bs (Co.getD (t-23).toNat []) else if 5<t/\t<23 then Hk (t-5) else⟨#[]⟩
def jA(t:Int)(U : -9223372036854775808<=t)(h:D9 w):() 32 #[t] w fun e w'=>e=oQ (oJ (Ms t))/\w=w':=by
 have R:=Hd (Tb (t-5) h);have P:=Hd h.2;clear h;unfold Ms;by_cases l:t=1
 ·subst l
  go_enter Tryz.func32,Tryz.ntmps32
  go_wp2;go_ret;exact⟨rfl,rfl⟩
 by_cases o:t=2
 ·subst o
  go_enter Tryz.func32,Tryz.ntmps32
  go_wp2;go_ret;exact⟨rfl,rfl⟩
 by_cases p:t=3
 ·subst p
  go_enter Tryz.func32,Tryz.ntmps32
  go_wp2;go_ret;exact⟨rfl,rfl⟩
 by_cases C:t=4
 ·subst C
  go_enter Tryz.func32,Tryz.ntmps32
  go_wp2;go_ret;exact⟨rfl,rfl⟩
 by_cases I:t=5
 ·subst I
  go_enter Tryz.func32,Tryz.ntmps32
  go_wp2;go_ret;exact⟨rfl,rfl⟩
 rw[if_neg l,if_neg o,if_neg p,if_neg C,if_neg I];have q1:(t==1)=false:=bN.2 l;have q2:(t==2)=false:=bN.2 o;have q3:(t==3)=false:=bN.2 p;have q4:(t==4)=false:=bN.2 C;have q5:(t==5)=false:=bN.2 I;clear l o p C I;by_cases i:23<=t/\t<=38
 ·rw[if_pos i]
  obtain⟨a,b⟩:=i;obtain⟨k,rfl⟩:∃k:Nat,t=(k:Int)+23:=⟨(t-23).toNat,nX⟩
  have J:k<Co.length:=by show k<16;omega
  have hc:=P k J;have T:Co.getD ((k:Int)+23-23).toNat []=Co[k]:=by rw[show ((k:Int)+23-23).toNat=k by omega,dG,eG J];rfl
  rw[T];generalize bs Co[k]=x at *;have a0:k<16:=J;have hs:(k:Int)+23-23=(k:Int):=by omega
  go_enter Tryz.func32,Tryz.ntmps32
  go_wp2;go_ret;exact⟨rfl,rfl⟩
 rw[if_neg i];by_cases j:5<t/\t<23
 ·rw[if_pos j]
  obtain⟨a,b⟩:=j;have c:¬23<=t:=by omega
  clear i;go_enter Tryz.func32,Tryz.ntmps32
  go_wp2_with (go_at_call 47;refine R.mono ?_;rintro e w' ⟨rfl,rfl⟩)
  go_ret;exact⟨rfl,rfl⟩
 rw[if_neg j];rcases Int.lt_or_le 38 t with c|c
 ·have c2:¬t<=38:=by omega
  have c3:23<=t:=by omega
  have c4:¬t<23:=by omega
  have c5:5<t:=by omega
  clear i j;go_enter Tryz.func32,Tryz.ntmps32
  go_wp2;go_ret;exact⟨rfl,rfl⟩
 ·have c2:¬23<=t:=by omega
  have c5:¬5<t:=by omega
  clear i j;go_enter Tryz.func32,Tryz.ntmps32
  go_wp2;go_ret;exact⟨rfl,rfl⟩
def lU{op:Int}(h:¬(1<=op/\op<=17)):Hk op=⟨#[]⟩:=by
 unfold Hk;by_cases h0:op<0
 ·rw[if_pos h0];rfl
 ·rw[if_neg h0]
  by_cases i:op=0
  ·subst i;rfl
  ·rw[dG,nG (by simp[CB];omega)]
   rfl
def mE(op:Int)(w:oU):() 49 #[op] w fun e w'=>e=oQ (oJ (Hk op))/\w=w':=by
 by_cases i:op=1
 ·subst i
  go_enter Tryz.func49,Tryz.ntmps49
  go_wp2;go_ret;exact⟨rfl,rfl⟩
 have q1:(op==1)=false:=bN.2 i;by_cases P:op=2
 ·subst P
  go_enter Tryz.func49,Tryz.ntmps49
  go_wp2;go_ret;exact⟨rfl,rfl⟩
 have q2:(op==2)=false:=bN.2 P;by_cases R:op=3
 ·subst R
  go_enter Tryz.func49,Tryz.ntmps49
  go_wp2;go_ret;exact⟨rfl,rfl⟩
 have q3:(op==3)=false:=bN.2 R;by_cases T:op=4
 ·subst T
  go_enter Tryz.func49,Tryz.ntmps49
  go_wp2;go_ret;exact⟨rfl,rfl⟩
 have q4:(op==4)=false:=bN.2 T;by_cases U:op=5
 ·subst U
  go_enter Tryz.func49,Tryz.ntmps49
  go_wp2;go_ret;exact⟨rfl,rfl⟩
 have q5:(op==5)=false:=bN.2 U;by_cases e6:op=6
 ·subst e6
  go_enter Tryz.func49,Tryz.ntmps49
  go_wp2;go_ret;exact⟨rfl,rfl⟩
 have q6:(op==6)=false:=bN.2 e6;by_cases e7:op=7
 ·subst e7
  go_enter Tryz.func49,Tryz.ntmps49
  go_wp2;go_ret;exact⟨rfl,rfl⟩
 have q7:(op==7)=false:=bN.2 e7;by_cases e8:op=8
 ·subst e8
  go_enter Tryz.func49,Tryz.ntmps49
  go_wp2;go_ret;exact⟨rfl,rfl⟩
 have q8:(op==8)=false:=bN.2 e8;by_cases e9:op=9
 ·subst e9
  go_enter Tryz.func49,Tryz.ntmps49
  go_wp2;go_ret;exact⟨rfl,rfl⟩
 have q9:(op==9)=false:=bN.2 e9;by_cases j:op=10
 ·subst j
  go_enter Tryz.func49,Tryz.ntmps49
  go_wp2;go_ret;exact⟨rfl,rfl⟩
 have a0:(op==10)=false:=bN.2 j;by_cases l:op=11
 ·subst l
  go_enter Tryz.func49,Tryz.ntmps49
  go_wp2;go_ret;exact⟨rfl,rfl⟩
 have a1:(op==11)=false:=bN.2 l;by_cases o:op=12
 ·subst o
  go_enter Tryz.func49,Tryz.ntmps49
  go_wp2;go_ret;exact⟨rfl,rfl⟩
 have a2:(op==12)=false:=bN.2 o;by_cases p:op=13
 ·subst p
  go_enter Tryz.func49,Tryz.ntmps49
  go_wp2;go_ret;exact⟨rfl,rfl⟩
 have a3:(op==13)=false:=bN.2 p;by_cases t:op=14
 ·subst t
  go_enter Tryz.func49,Tryz.ntmps49
  go_wp2;go_ret;exact⟨rfl,rfl⟩
 have a4:(op==14)=false:=bN.2 t;by_cases C:op=15
 ·subst C
  go_enter Tryz.func49,Tryz.ntmps49
  go_wp2;go_ret;exact⟨rfl,rfl⟩
 have a5:(op==15)=false:=bN.2 C;by_cases I:op=16
 ·subst I
  go_enter Tryz.func49,Tryz.ntmps49
  go_wp2;go_ret;exact⟨rfl,rfl⟩
 have a6:(op==16)=false:=bN.2 I;by_cases J:op=17
 ·subst J
  go_enter Tryz.func49,Tryz.ntmps49
  go_wp2;go_ret;exact⟨rfl,rfl⟩
 have a7:(op==17)=false:=bN.2 J;rw[lU nX];clear i P R T U e6 e7 e8 e9 j l o p t C I J;go_enter Tryz.func49,Tryz.ntmps49
 go_wp2;go_ret;exact⟨rfl,rfl⟩
def Nt:Array oV:=(Co.map fun l=>Value.string (bs l)).toArray
def WH(w:oU):() 34 #[] w fun e w'=>e=oQ (oG (w,0) 16 16)/\w'=w.alloc (oP Nt 9):=by
 go_enter Tryz.func34,Tryz.ntmps34
 go_wp2;go_ret;exact⟨rfl,rfl⟩
section
open Go.ChangeShapes Go.WideShapes Go.ChangeAt Go.RowKit
section
variable {H:Type} {enc:TypeId×oV->H} {P:Program}
theorem R6(T:laidOutB P=true){W J:oU}(R:Below W W J)(I:Nat->Bool) :
  ∀(l:List TypeId) (C:List oV) (o:List (DataW H)) (j:List MemPlace),(∀t∈l,P.readableRec t=true/\t<P.types.size) ->
   DataW.TrodAll enc P W 0 (fun _=>true) true l C o j->(∀p∈j,p.block<W.heap.size)->(∀p∈j,I p.block=true)->DataW.TrodAll enc P J 0 I true l C o j
 | [],[],[],j,_,h,_,_=>h
 | t::l,v::C,d::o,j,hr,h,U,hs=>by
  obtain⟨p,q,h1,h2,rfl⟩:=h;have a0:=hr t oA;exact⟨p,q,WideElems.Trod_stays T a0.1 a0.2 h1 (fun x i=>R.same (U x (by simp[i]))) (fun x i=>hs x (by simp[i])),
   R6 T R I l C o q (fun t ht=>hr t (by simp[ht])) h2 (fun x i=>U x (by simp[i])) (fun x i=>hs x (by simp[i])),rfl⟩
 | [],[],_::_,_,_,h,_,_=>h.elim
 | [],_::_,_,_,_,h,_,_=>h.elim
 | _::_,[],_,_,_,h,_,_=>h.elim
 | _::_,_::_,[],_,_,h,_,_=>h.elim
def WM{f:Func}{s:ChangeSpec}{apart fresh a8 a6:Bool}{o:oU}{l I:List (DataW H)}{a1:List MemPlace}
  (J:DataW.Whole enc P f.params.toList s.vars apart W args.toList l I a1) (hv:s.vars=[])
  (a0:s.fn H (l++I)={results:=[.lit (.bool true)],args:=l}) {tb:TypeId} (aa:f.resultTypes=#[tb]) (ab:P.underlying tb=oM .bool)
  (hl:laidOutB P=true) (hr:∀t∈f.params.toList,P.readableRec t=true/\t<P.types.size) (R:Below W W o)
  (a9:∀(j:Nat) (t:TypeId) (r:oV),f.resultTypes[j]?=oM t->((Value.bool true).resultList f.resultTypes.size)[j]?=oM r->Value.okWide P o .any 0 t r) :
  s.post enc P f apart fresh a8 a6 W args (oK true) o:=by
 have T:∀p∈a1,p.block<W.heap.size:=fun p U=>J.lt p U
 have a4:∀(b:Nat) (i:Nat->Bool) (hd:Bool),DataW.TrodAll enc P o b i hd f.resultTypes.toList ((Value.bool true).resultList f.resultTypes.size) (s.fn H (l++I)).results []:=by intro b i hd;rw[a0,aa];exact trodAll_mk1 (shut_bool ab true)
 have a7:=J;obtain⟨p,q,hA,hV,rfl,hz,hn⟩:=J;rw[hv]at hV;obtain⟨rfl,rfl⟩:=trodVars_none hV;simp only[List.append_nil]at *;have a2:∀i:Nat->Bool,(∀x∈p,i x.block=true)->DataW.TrodAll enc P o 0 i true f.params.toList args.toList (s.fn H l).args p:=by intro i hs;rw[a0];exact R6 hl R i _ _ _ _ hr hA T hs
 have a5:∀i:Nat->Bool,DataW.TrodVars enc P o i s.vars (s.fn H l).vars []:=by intro i;rw[a0,hv];exact rfl
 refine⟨l,[],p,[],p,[],a7,by simpa using a4 _ _ _,by simpa using a2 _ (fun x C=>by simpa using T x C),by simpa using a5 _,World.keptBut_mono (fun x C=>⟨C,?_⟩) (R.frame (·∈p)),fun _=>?_⟩
 ·exact Or.inr (by simpa using C)
 ·have hh:=trodAll_append (a2 (fun _=>true) (fun _ _=>rfl)) (a4 0 (fun _=>true) true)
  refine⟨a9,_,(s.fn H l).vars,[]++p,⟨[]++p,[],hh,a5 _,oA,?_,?_⟩,?_⟩
  ·intro b off U
   have a3:MemPlace.cell b off∈p:=by simpa using U
   rw[R.frozen (T _ a3)];exact hz b off a3
  ·intro ha
   simpa using hn ha
  ·intro x C _
   simpa using C
end
end
