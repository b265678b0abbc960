/- Reading a grammar's text. What is read may be. What is shown is read as it was. What is shown is read as it was. What is shown is read as it was. Sets of numbers. What a call may turn. Sets of numbers. Sets of numbers. Sets of numbers. Sets of numbers. A region whose order is drawn and whose. A region that draws its order. A range over a function. A region whose order is drawn and whose. The POSIX grammar's text. Operators and reserved words. Operators. Operators' terminals and reserved words. Reserved words. How a terminal is written. The frame of a law's proof. -/
import Derived.Test.YthaacmablcpdfaaGreatDoorYab
import Derived.Lib.Index
import Derived.Test.YthaacmablcpdfaaGreatDoorYaa
import Derived.Test.YthaacmablcpdfaaGreatDoorProg
import Derived.Deep.RegionLaw
import Derived.Laws.BitsAllLaws
import Derived.Deep.DeepCutAuto
import Derived.Deep.RegionHeld3
import Derived.StillTail
import Derived.Deep.Quiet
import Derived.Deep.QuietTactic
import Derived.BigQuiet
import Derived.WalkKit
import Derived.RangeFuncNested
import Derived.RangeFuncBound
import Derived.RangeFuncCalls
import Derived.RangeFuncLeaves
import Derived.Test.YthaacmablcpdfaaGreatDoorRows
import Derived.Below
import Derived.Lib.Hide
import Derived.Lib.Strings
import Derived.ProofKit
import Derived.OpenShut
import Derived.ShutString
import Derived.Carry
import Derived.ChangeSame
import Derived.Test.YthaacmablcpdfaaGreatDoorYn
set_option linter.unusedVariables false
set_option maxRecDepth 100000
set_option maxHeartbeats 16000000
namespace Go.Proofs.YthaacmablcpdfaaGreatDoor
open Go.RowKit
structure Tk where
 k:Nat
 s:List UInt8
 p:Nat
abbrev Bi:=Nat×Nat
def FT(c:UInt8):Bool:=c==32||c==9||c==10||c==13
def Cy(c:UInt8):Bool:=BD c==4||BD c==3
def B7(p:UInt8->Bool)(l:List UInt8):Nat:=(l.takeWhile p).length
def JM(sz p:Nat)(r:List UInt8):Except Bi (Nat×Nat):=
 if sz<=p+1+Bg r then .error (4,sz) else if r[Bg r]?≠some 39\/Bg r=0 then .error (2,p+1+Bg r) else if 24<=1+Bg r then .error (5,p) else .ok (2,Bg r+2)
def Jz(sz p:Nat)(r:List UInt8):Except Bi (Nat×Nat):=
 if r.head?=some 42 then(if Lib.index (r.drop 1) [42,47]<0 then .error (4,sz) else .ok (0,(Lib.index (r.drop 1) [42,47]).toNat+4)) else .error (2,p)
def Ku(p:Nat)(r:List UInt8):Except Bi (Nat×Nat):=
 if r.head?=some 37 then .ok (6,2)
 else if r.take (B7 Cy r)=[116,111,107,101,110] then .ok (7,1+B7 Cy r)
 else if r.take (B7 Cy r)=[115,116,97,114,116] then .ok (8,1+B7 Cy r) else .error (2,p)
def I2(c:UInt8):Nat:=if c=58 then 3 else if c=124 then 4 else if c=59 then 5 else 0
def GL(sz p:Nat):List UInt8->Except Bi (Nat×Nat)
 | []=>.ok (0,0)
 | c::r=>
  if FT c then .ok (0,B7 FT (c::r))
  else if c=47 then Jz sz p r
  else if c=39 then JM sz p r
  else if c=37 then Ku p r
  else if BD c=4 then(if 24<B7 Cy (c::r) then .error (5,p) else .ok (1,B7 Cy (c::r)))
  else if I2 c≠0 then .ok (I2 c,1) else .error (2,p)
def E4(sz:Nat):Nat->Nat->List UInt8->Except Bi (List Tk)
 | 0,_,_=>.error (0,0)
 | f+1,p,l=>
  if l.isEmpty then .ok [⟨0,[],sz⟩] else
  match GL sz p l with
  | .error e=>.error e
  | .ok (k,n)=>(match E4 sz f (p+n) (l.drop n) with
   | .error e=>.error e
   | .ok i=>.ok (if k=0 then i else⟨k,l.take n,p⟩::i))
def tokens(l:List UInt8):Except Bi (List Tk):=if 8192<l.length then .error (5,0) else E4 l.length (l.length+1) 0 l
structure PS where
 l:List Tk
 p:Nat
structure PR where
 left:Tk
 Gw:List PS
structure Bh where
 decl:List Tk
 marks:List Nat
 starts:List Tk
 rules:List PR
def Ba(t:Tk):Bool:=t.k==1||t.k==2
def DG:List Tk->Bi
 | t::_=>(if t.k=0 then 4 else 3,t.p)
 | []=>(0,0)
def Cm(k:Nat):List Tk->Bool
 | t::_=>t.k==k
 | []=>false
def Xz:List Tk->Nat
 | t::_=>t.p
 | []=>0
def Da(x:Bh):List Tk->Except Bi (Bh×List Tk)
 | []=>.error (0,0)
 | t::r=>
  if t.k=7 then(if (r.takeWhile Ba).isEmpty then .error (DG r) else .ok ({x with decl:=x.decl++r.takeWhile Ba},r.dropWhile Ba))
  else if t.k=8 then(if Cm 1 r then .ok ({x with marks:=x.marks++[t.p],starts:=x.starts++r.take 1},r.drop 1) else .error (DG r))
  else .error (DG (t::r))
def FO:Nat->Bh->List Tk->Except Bi (Bh×List Tk)
 | 0,_,_=>.error (0,0)
 | f+1,x,l=>if Cm 6 l then .ok (x,l.drop 1) else
  match Da x l with
  | .error e=>.error e
  | .ok (j,i)=>FO f j i
def BR(l:List Tk):PS:=⟨l.takeWhile Ba,Xz l⟩
def DK:Nat->List PS->List Tk->List PS×List Tk
 | 0,a,l=>(a,l)
 | f+1,a,l=>if Cm 4 l then DK f (a++[BR (l.drop 1)]) ((l.drop 1).dropWhile Ba) else(a,l)
def CQ:List Tk->Except Bi (PR×List Tk)
 | []=>.error (0,0)
 | t::r=>
  if t.k≠1 then .error (DG (t::r)) else if Cm 3 r then
   (
    if Cm 5 (DK r.length [BR (r.drop 1)] ((r.drop 1).dropWhile Ba)).2 then
     .ok (⟨t,(DK r.length [BR (r.drop 1)] ((r.drop 1).dropWhile Ba)).1⟩,(DK r.length [BR (r.drop 1)] ((r.drop 1).dropWhile Ba)).2.drop 1)
    else .error (DG (DK r.length [BR (r.drop 1)] ((r.drop 1).dropWhile Ba)).2))
  else .error (DG r)
def Fi:Nat->List PR->List Tk->Except Bi (List PR)
 | 0,_,_=>.error (0,0)
 | f+1,a,l=>if Cm 0 l then .ok a else
  match CQ l with
  | .error e=>.error e
  | .ok (r,i)=>Fi f (a++[r]) i
def Fz(l:List Tk):Except Bi Bh:=
 match FO (l.length+1) ⟨[],[],[],[]⟩ l with
 | .error e=>.error e
 | .ok (x,i)=>
  match CQ i with
  | .error e=>.error e
  | .ok (r,j)=>
   match Fi (l.length+1) [r] j with
   | .error e=>.error e
   | .ok o=>.ok {x with rules:=o}
abbrev AO:=List UInt8
structure Bd where
 T:List AO
 N:List AO
 R:List (List AO)
def leftOf(x:Bh)(s:AO):Bool:=x.rules.any fun r=>r.left.s==s
def Cr(T:List AO)(t:Tk):Except Bi (List AO):=if T.contains t.s then .error (8,t.p) else if 120<=T.length then .error (7,t.p) else .ok (T++[t.s])
def Es(i:AO->Bool)(st:Tk):Except Bi Unit:=if i st.s then .ok () else .error (9,st.p)
def BA(j:AO->Bool):Option (Nat×Tk)->List Tk->List AO->Except Bi (List AO)
 | none,[],T=>.ok T
 | some (_,l),[],T=>(match Es j l with | .error e=>.error e | .ok _=>.ok T)
 | none,t::r,T=>(match Cr T t with | .error e=>.error e | .ok i=>BA j none r i)
 | some (m,l),t::r,T=>
  if m<t.p then(match Es j l with | .error e=>.error e | .ok _=>(match Cr T t with | .error e=>.error e | .ok i=>BA j none r i))
  else(match Cr T t with | .error e=>.error e | .ok i=>BA j (some (m,l)) r i)
def DM:List Nat->Nat
 | _::m::_=>m
 | _=>8193
def BW(x:Bh):Option (Nat×Tk):=match x.marks,x.starts with|m::_,i::_=>some (m,i)|_,_=>none
def Gr(x:Bh):Except Bi (List AO):=
 match BA (leftOf x) (BW x) x.decl [] with
 | .ok T=>if DM x.marks<=8192 then .error (8,DM x.marks) else .ok T
 | .error e=>if DM x.marks<=8192/\DM x.marks<e.2 then .error (8,DM x.marks) else .error e
def EO(D:Nat)(b:Bd)(t:Tk):Except Bi Bd:=
 if (b.T.take D).contains t.s then .error (8,t.p) else if b.N.contains t.s then .ok b else if 120<=b.N.length then .error (7,t.p) else .ok {b with N:=b.N++[t.s]}
def D0(i:AO->Bool)(b:Bd)(t:Tk)(k:Nat):Except Bi Bd:=
 if 8<=k then .error (7,t.p) else if b.T.contains t.s then .ok b
 else if t.k=2 then(if 120<=b.T.length then .error (7,t.p) else .ok {b with T:=b.T++[t.s]})
 else if i t.s then .ok b else .error (9,t.p)
def DY(i:AO->Bool):Bd->Nat->List Tk->Except Bi Bd
 | b,_,[]=>.ok b
 | b,k,t::r=>match D0 i b t k with | .error e=>.error e | .ok j=>DY i j (k+1) r
def D3(j:AO->Bool)(b:Bd)(left:AO)(s:PS):Except Bi Bd:=
 if 300<=b.R.length then .error (7,s.p) else
 match DY j b 0 s.l with
 | .error e=>.error e
 | .ok i=>if i.R.contains (left::s.l.map Tk.s) then .error (8,s.p) else .ok {i with R:=i.R++[left::s.l.map Tk.s]}
def Fw(i:AO->Bool)(left:AO):Bd->List PS->Except Bi Bd
 | b,[]=>.ok b
 | b,s::r=>match D3 i b left s with | .error e=>.error e | .ok j=>Fw i left j r
def JB(j:AO->Bool)(D:Nat)(b:Bd)(r:PR):Except Bi Bd:=
 match EO D b r.left with | .error e=>.error e | .ok i=>Fw j r.left.s i r.Gw
def Di(i:AO->Bool)(D:Nat):Bd->List PR->Except Bi Bd
 | b,[]=>.ok b
 | b,r::l=>match JB i D b r with | .error e=>.error e | .ok j=>Di i D j l
def BY(T N:List AO)(s:AO):Nat:=if T.contains s then T.idxOf s+1 else if N.contains s then T.length+N.idxOf s+1 else 0
structure PG where
 T:List AO
 N:List AO
 s:Nat
 R:List (Nat×List Nat)
def GC(T N:List AO):List AO->Nat×List Nat
 | []=>(0,[])
 | a::l=>(BY T N a,l.map (BY T N))
def Ha(x:Bh)(b:Bd):PG:=
 {T:=b.T,N:=b.N,s:=match x.starts with|[]=>b.T.length+1|i::_=>BY b.T b.N i.s,R:=b.R.map (GC b.T b.N)}
def Gh(x:Bh):Except Bi PG:=
 match Gr x with
 | .error e=>.error e
 | .ok T=>match Di (leftOf x) T.length ⟨T,[],[]⟩ x.rules with
  | .error e=>.error e
  | .ok b=>.ok (Ha x b)
def E9(s:List UInt8):Except Bi PG:=
 match tokens s with
 | .error e=>.error e
 | .ok l=>match Fz l with
  | .error e=>.error e
  | .ok x=>Gh x
structure C7(lf:AO->Bool)(D:Nat)(b:Bd):Prop where
 i1:b.T.length<=120
 i2:b.N.length<=120
 i3:b.R.length<=300
 i4:b.T.Nodup
 i5:b.N.Nodup
 i6:∀s∈b.T,(Cg s||Cl s)=true
 i7:∀s∈b.N,Cg s=true
 i8:∀s∈b.T.drop D,Cl s=true
 i9:∀s∈b.N,s ∉ b.T.take D
 i0:D<=b.T.length
 i10:∀r∈b.R,∃a l,r=a::l/\a∈b.N/\l.length<=8/\∀c∈l,c∈b.T\/lf c=true
 i11:b.R.Nodup
structure FG(R:List (List AO))(N:List AO):Prop where
 mem:∀a∈N,∃r∈R,r.head?=some a
 ord:∀i j:Nat,i<j->∀a c,N[i]?=some a->N[j]?=some c->R.findIdx (fun r=>r.head?==some a)<R.findIdx (fun r=>r.head?==some c)
def Tk.Cx(t:Tk):Prop:=(t.k=1->Cg t.s=true)/\(t.k=2->Cl t.s=true)
theorem OB{i:Type}{p:i->Bool}{l r:List i}(h:∃x∈l,p x=true):(l++r).findIdx p=l.findIdx p:=by have j:l.findIdx p<l.length:=List.findIdx_lt_length_of_exists h;rw[List.findIdx_append];simp[j]
theorem FG.Kg{R:List (List AO)}{N:List AO}(h:FG R N)(r:List AO):FG (R++[r]) N where
 mem a ha:=by obtain⟨x,o,l⟩:=h.mem a ha;exact⟨x,List.mem_append_left _ o,l⟩
 ord i j t a c ha p:=by
  have e:∀a∈N,(R++[r]).findIdx (fun r=>r.head?==some a)=R.findIdx (fun r=>r.head?==some a):=fun a ha=>OB (by obtain⟨x,o,l⟩:=h.mem a ha;exact⟨x,o,by simp[l]⟩)
  rw[e a (mG ha),e c (mG p)];exact h.ord i j t a c ha p
theorem FG.fresh{R:List (List AO)}{N:List AO}(h:FG R N)(a:AO)(l:List AO)(ha:a ∉ N)(P:∀r∈R,∃c l,r=c::l/\c∈N):FG (R++[a::l]) (N++[a]) where
 mem c p:=by
  rcases mA.1 p with p|p
  ·obtain⟨x,o,t⟩:=h.mem c p;exact⟨x,List.mem_append_left _ o,t⟩
  ·rw[mS.1 p];exact⟨a::l,by simp,rfl⟩
 ord i j U c d p C:=by
  have a0:j<(N++[a]).length:=(sG.1 C).1;simp at a0;have I:N[i]?=some c:=by rw[gL (by omega)]at p;exact p
  have e:(R++[a::l]).findIdx (fun r=>r.head?==some c)=R.findIdx (fun r=>r.head?==some c):=OB (by obtain⟨x,o,t⟩:=h.mem c (mG I);exact⟨x,o,by simp[t]⟩);have a1:R.findIdx (fun r=>r.head?==some c)<R.length:=List.findIdx_lt_length_of_exists (by obtain⟨x,o,t⟩:=h.mem c (mG I);exact⟨x,o,by simp[t]⟩);rw[e];by_cases hj:j<N.length
  ·have J:N[j]?=some d:=by rw[gL hj]at C;exact C
   rw[OB (by obtain⟨x,o,t⟩:=h.mem d (mG J);exact⟨x,o,by simp[t]⟩)];exact h.ord i j U c d I J
  ·obtain rfl:j=N.length:=by omega
   have:d=a:=by simp at C;exact C.symm
   subst this;have hn:R.findIdx (fun r=>r.head?==some d)=R.length:=by rw[List.findIdx_eq_length];intro x o;obtain⟨c',l',rfl,T⟩:=P x o;simp;rintro rfl;exact ha T
   rw[List.findIdx_append,hn];simp;exact h.mem c (mG I)
theorem C7.left{I:AO->Bool}{D:Nat}{b l:Bd}{t:Tk}(h:C7 I D b)(U:Cg t.s=true)(i:EO D b t=.ok l):C7 I D l/\t.s∈l.N/\l.T=b.T/\l.R=b.R/\(l.N=b.N\/(t.s ∉ b.N/\l.N=b.N++[t.s])):=by
 unfold EO at i;split at i
 ·cases i
 rename_i J;split at i
 ·rename_i o
  injection i with i;subst i;exact⟨h,by simpa using o,rfl,rfl,.inl rfl⟩
 rename_i o;split at i
 ·cases i
 rename_i h3;injection i with i;subst i;have C:t.s ∉ b.N:=by simpa using o
 have P:t.s ∉ b.T.take D:=by simpa using J
 refine⟨⟨h.i1,by simp;omega,h.i3,h.i4,?_,h.i6,?_,h.i8,?_,h.i0,?_,h.i11⟩,by simp,rfl,rfl,.inr ⟨C,rfl⟩⟩
 ·rw[List.nodup_append]
  refine⟨h.i5,by simp,?_⟩;intro a ha c p;rw[mS.1 p];rintro rfl;exact C ha
 ·intro s j
  rcases mA.1 j with j|j
  ·exact h.i7 s j
  ·rw[mS.1 j];exact U
 ·intro s j
  rcases mA.1 j with j|j
  ·exact h.i9 s j
  ·rw[mS.1 j];exact P
 ·intro r T
  obtain⟨a,a0,e,ha,R,p⟩:=h.i10 r T;exact⟨a,a0,e,List.mem_append_left _ ha,R,p⟩
theorem C7.symbol{o:AO->Bool}{D:Nat}{b l:Bd}{t:Tk}{k:Nat}(h:C7 o D b)(P:t.Cx)(i:D0 o b t k=.ok l):C7 o D l/\k<8/\(t.s∈l.T\/o t.s=true)/\l.N=b.N/\l.R=b.R/\(∀s∈b.T,s∈l.T):=by
 unfold D0 at i;split at i
 ·cases i
 rename_i h0;split at i
 ·rename_i p
  injection i with i;subst i;exact⟨h,by omega,.inl (by simpa using p),rfl,rfl,fun _ h=>h⟩
 rename_i p;have R:t.s ∉ b.T:=by simpa using p
 split at i
 ·rename_i I
  split at i
  ·cases i
  rename_i J;injection i with i;subst i;refine⟨⟨by simp;omega,h.i2,h.i3,?_,h.i5,?_,h.i7,?_,?_,by simp;have:=h.i0;omega,?_,h.i11⟩,by omega,.inl (by simp),rfl,rfl,fun s j=>List.mem_append_left _ j⟩
  ·rw[List.nodup_append]
   refine⟨h.i4,by simp,?_⟩;intro a ha c C;rw[mS.1 C];rintro rfl;exact R ha
  ·intro s j
   rcases mA.1 j with j|j
   ·exact h.i6 s j
   ·rw[mS.1 j,P.2 I];simp
  ·intro s j
   rw[List.drop_append_of_le_length h.i0]at j;rcases mA.1 j with j|j
   ·exact h.i8 s j
   ·rw[mS.1 j];exact P.2 I
  ·intro s j
   show s ∉ (b.T++[t.s]).take D;rw[List.take_append_of_le_length h.i0];exact h.i9 s j
  ·intro r hr
   obtain⟨a,a0,e,ha,hl,C⟩:=h.i10 r hr;exact⟨a,a0,e,ha,hl,fun c T=>(C c T).imp (fun U=>List.mem_append_left _ U) id⟩
 ·split at i
  ·rename_i J
   injection i with i;subst i;exact⟨h,by omega,.inr J,rfl,rfl,fun _ h=>h⟩
  ·cases i
theorem C7.syms{p:AO->Bool}{D:Nat}:∀(l:List Tk) {b j:Bd} {k:Nat},C7 p D b->(∀t∈l,t.Cx)->DY p b k l=.ok j ->
  C7 p D j/\(l=[]\/k+l.length<=8)/\(∀t∈l,t.s∈j.T\/p t.s=true)/\j.N=b.N/\j.R=b.R/\(∀s∈b.T,s∈j.T)
 | [],b,j,k,h,_,i=>by simp only[DY]at i;injection i with i;subst i;exact⟨h,.inl rfl,by simp,rfl,rfl,fun _ h=>h⟩
 | t::r,b,j,k,h,I,i=>by
  simp only[DY]at i;cases o:D0 p b t k with
  | error e=>rw[o]at i;cases i
  | ok b1=>
   rw[o]at i;obtain⟨R,g2,T,U,g5,g6⟩:=h.symbol (I t (by simp)) o;obtain⟨q1,J,q3,q4,q5,P⟩:=C7.syms r R (fun t ht=>I t (by simp[ht])) i;refine⟨q1,.inr ?_,?_,q4.trans U,q5.trans g5,fun s o=>P s (g6 s o)⟩
   ·rcases J with rfl|J
    ·simp;omega
    ·simp;omega
   ·intro u C
    rcases List.mem_cons.1 C with rfl|C
    ·exact T.imp (P _) id
    ·exact q3 u C
theorem C7.side{p:AO->Bool}{D:Nat}{b o:Bd}{left:AO}{s:PS}(h:C7 p D b)(hl:left∈b.N)(hs:∀t∈s.l,t.Cx)(i:D3 p b left s=.ok o) :
  C7 p D o/\o.N=b.N/\o.R=b.R++[left::s.l.map Tk.s]:=by
 unfold D3 at i;split at i
 ·cases i
 rename_i h0;cases I:DY p b 0 s.l with
 | error e=>rw[I]at i;cases i
 | ok T=>
  rw[I]at i;simp only at i;split at i
  ·cases i
  rename_i U;injection i with i;subst i;obtain⟨j,J,q3,P,R,q6⟩:=h.syms s.l hs I;have a0:left::s.l.map Tk.s ∉ T.R:=by simpa using U
  refine⟨⟨j.i1,j.i2,by simp;rw[R];omega,j.i4,j.i5,j.i6,j.i7,j.i8,j.i9,j.i0,?_,?_⟩,P,by rw[<-R]⟩
  ·intro r l
   rcases mA.1 l with l|l
   ·exact j.i10 r l
   ·rw[mS.1 l]
    refine⟨left,_,rfl,by rw[P];exact hl,?_,?_⟩
    ·rcases J with e|J
     ·rw[e];simp
     ·simp;omega
    ·intro c C
     obtain⟨t,ht,rfl⟩:=List.mem_map.1 C;exact q3 t ht
  ·rw[List.nodup_append]
   refine⟨j.i11,by simp,?_⟩;intro a ha c C;rw[mS.1 C];rintro rfl;exact a0 ha
def Mg(b:Bd)(left:AO):Prop:=(FG b.R b.N/\left∈b.N)\/∃i,b.N=i++[left]/\left ∉ i/\FG b.R i/\∀r∈b.R,∃c l,r=c::l/\c∈i
theorem C7.Gw{C:AO->Bool}{D:Nat}{left:AO}:∀(l:List PS) {b j:Bd},C7 C D b->Mg b left->(∀s∈l,∀t∈s.l,t.Cx)->Fw C left b l=.ok j ->
  C7 C D j/\j.N=b.N/\(l≠[]->FG j.R j.N)/\Mg j left
 | [],b,j,h,p,_,i=>by simp only[Fw]at i;injection i with i;subst i;exact⟨h,rfl,fun h=>absurd rfl h,p⟩
 | s::r,b,j,h,p,hs,i=>by
  simp only[Fw]at i;cases P:D3 C b left s with
  | error e=>rw[P]at i;cases i
  | ok I=>
   rw[P]at i;have T:left∈b.N:=by
    rcases p with⟨_,o⟩|⟨N0,o,_⟩
    ·exact o
    ·rw[o];simp
   obtain⟨g1,J,g3⟩:=h.side T (hs s (by simp)) P;have U:FG I.R I.N:=by
    rw[g3,J];rcases p with⟨o,R⟩|⟨N0,o,R,h3,h4⟩
    ·exact o.Kg _
    ·rw[o];exact h3.fresh left _ R h4
   have a0:Mg I left:=.inl ⟨U,by rw[J];exact T⟩;obtain⟨q1,q2,q3,q4⟩:=C7.Gw r g1 a0 (fun s a1=>hs s (by simp[a1])) i;refine⟨q1,q2.trans J,fun _=>?_,q4⟩;by_cases hr:r=[]
   ·subst hr
    simp only[Fw]at i;injection i with i;subst i;exact U
   ·exact q3 hr
theorem C7.Cf{J:AO->Bool}{D:Nat}{r:PR}{b j:Bd}(h:C7 J D b)(R:FG b.R b.N)(hk:Cg r.left.s=true)(o:∀s∈r.Gw,∀t∈s.l,t.Cx)(a0:r.Gw≠[])(l:JB J D b r=.ok j) :
  C7 J D j/\FG j.R j.N/\(∀s∈b.N,s∈j.N)/\r.left.s∈j.N:=by
 unfold JB at l;cases I:EO D b r.left with
 | error e=>rw[I]at l;cases l
 | ok U=>
  rw[I]at l;obtain⟨g1,P,g3,p,i⟩:=h.left hk I;have a1:Mg U r.left.s:=by
   rcases i with i|⟨i,C⟩
   ·exact .inl ⟨by rw[p,i];exact R,P⟩
   ·refine .inr ⟨b.N,C,i,by rw[p];exact R,?_⟩
    rw[p];intro r' a2;obtain⟨a,a3,e,ha,_⟩:=h.i10 r' a2;exact⟨a,a3,e,ha⟩
  obtain⟨q1,T,q3,_⟩:=g1.Gw r.Gw a1 o l;refine⟨q1,q3 a0,fun s o=>?_,by rw[T];exact P⟩;rw[T];rcases i with i|⟨_,C⟩
  ·rw[i];exact o
  ·rw[C];exact List.mem_append_left _ o
def PR.Cx(r:PR):Prop:=Cg r.left.s=true/\(∀s∈r.Gw,∀t∈s.l,t.Cx)/\r.Gw≠[]
theorem C7.rules{p:AO->Bool}{D:Nat}:∀(l:List PR) {b j:Bd},C7 p D b->FG b.R b.N->(∀r∈l,r.Cx)->Di p D b l=.ok j ->
  C7 p D j/\FG j.R j.N/\(∀s∈b.N,s∈j.N)/\∀r∈l,r.left.s∈j.N
 | [],b,j,h,t,_,i=>by simp only[Di]at i;injection i with i;subst i;exact⟨h,t,fun _ h=>h,by simp⟩
 | r::l,b,j,h,t,o,i=>by
  simp only[Di]at i;cases C:JB p D b r with
  | error e=>rw[C]at i;cases i
  | ok b1=>
   rw[C]at i;obtain⟨k1,k2,k3⟩:=o r (by simp);obtain⟨P,R,T,U⟩:=h.Cf t k1 k2 k3 C;obtain⟨q1,q2,J,q4⟩:=C7.rules l P R (fun r hr=>o r (by simp[hr])) i;refine⟨q1,q2,fun s o=>J s (T s o),fun r' I=>?_⟩;rcases List.mem_cons.1 I with rfl|I
   ·exact J _ U
   ·exact q4 r' I
theorem Wo{R:AO->Bool}:∀(l:List Tk) (m:Option (Nat×Tk)) {T T':List AO},(∀t∈l,t.Cx/\Ba t=true)->T.length<=120->T.Nodup->(∀s∈T,(Cg s||Cl s)=true)->BA R m l T=.ok T' ->
  T'.length<=120/\T'.Nodup/\∀s∈T',(Cg s||Cl s)=true:=by
 have one:∀{T T':List AO} {t:Tk},t.Cx/\Ba t=true->T.length<=120->T.Nodup->(∀s∈T,(Cg s||Cl s)=true)->Cr T t=.ok T'->T'.length<=120/\T'.Nodup/\∀s∈T',(Cg s||Cl s)=true:=by
  intro T T' t p C j o i;unfold Cr at i;split at i
  ·cases i
  rename_i g1;split at i
  ·cases i
  rename_i g2;injection i with i;subst i;have a0:t.s ∉ T:=by simpa using g1
  refine⟨by simp;omega,?_,?_⟩
  ·rw[List.nodup_append]
   refine⟨j,by simp,?_⟩;intro a ha c hc;rw[mS.1 hc];rintro rfl;exact a0 ha
  ·intro s J
   rcases mA.1 J with J|J
   ·exact o s J
   ·rw[mS.1 J]
    have:=p.2;unfold Ba at this;rw[Bool.or_eq_true,beq_iff_eq,beq_iff_eq]at this;rcases this with k|k
    ·rw[p.1.1 k];rfl
    ·rw[p.1.2 k];simp
 intro l;induction l with
 | nil=>
  intro m T T' _ C j o i;cases m with
  | none=>simp only[BA]at i;injection i with i;subst i;exact⟨C,j,o⟩
  | some q=>
   obtain⟨m,U⟩:=q;simp only[BA]at i;cases I:Es R U with
   | error e=>rw[I]at i;cases i
   | ok u=>rw[I]at i;injection i with i;subst i;exact⟨C,j,o⟩
 | cons t r ih=>
  intro m T T' p C j o i;have step:∀(m':Option (Nat×Tk)),(match Cr T t with | .error e=>.error e | .ok T1=>BA R m' r T1)=Except.ok T'->T'.length<=120/\T'.Nodup/\∀s∈T',(Cg s||Cl s)=true:=by
   intro m' P;cases hd:Cr T t with
   | error e=>rw[hd]at P;cases P
   | ok T1=>rw[hd]at P;obtain⟨k1,k2,k3⟩:=one (p t (by simp)) C j o hd;exact ih m' (fun t a1=>p t (by simp[a1])) k1 k2 k3 P
  cases m with
  | none=>simp only[BA]at i;exact step none i
  | some q=>
   obtain⟨m,U⟩:=q;simp only[BA]at i;split at i
   ·cases I:Es R U with
    | error e=>rw[I]at i;cases i
    | ok u=>rw[I]at i;exact step none i
   ·exact step (some (m,U)) i
theorem fT{j:AO->Bool}{st:Tk}:∀(l:List Tk) {m:Nat} {T T':List AO},BA j (some (m,st)) l T=.ok T'->j st.s=true:=by
 have one:Es j st=.ok ()->j st.s=true:=by
  unfold Es;split
  ·intro _;assumption
  ·intro h;cases h
 intro l;induction l with
 | nil=>
  intro m T T' i;simp only[BA]at i;cases o:Es j st with
  | error e=>rw[o]at i;cases i
  | ok u=>exact one o
 | cons t r C=>
  intro m T T' i;simp only[BA]at i;split at i
  ·cases o:Es j st with
   | error e=>rw[o]at i;cases i
   | ok u=>exact one o
  ·cases p:Cr T t with
   | error e=>rw[p]at i;cases i
   | ok I=>rw[p]at i;exact C i
def Dh(l:List Tk):Prop:=∀t∈l,t.Cx
theorem Dh.drop{l:List Tk}(h:Dh l)(n:Nat):Dh (l.drop n):=fun t i=>h t (List.mem_of_mem_drop i)
theorem Dh.Is{l:List Tk}(h:Dh l):Dh (l.dropWhile Ba):=fun t i=>h t ((List.dropWhile_sublist Ba).mem i)
theorem XO{l:List Tk}:∀t∈l.takeWhile Ba,Ba t=true:=by
 induction l with
 | nil=>intro t i;simp at i
 | cons a r j=>
  intro t i;rw[List.takeWhile_cons]at i;split at i
  ·rename_i ha
   rcases List.mem_cons.1 i with rfl|i
   ·exact ha
   ·exact j t i
  ·simp at i
theorem Dh.Pt{l:List Tk}(h:Dh l):∀t∈l.takeWhile Ba,t.Cx/\Ba t=true:=fun t i=>⟨h t ((List.takeWhile_sublist Ba).mem i),XO t i⟩
structure Bh.Cx(x:Bh):Prop where
 decl:∀t∈x.decl,t.Cx/\Ba t=true
 same:x.marks.length=x.starts.length
theorem X6{x C:Bh}{l J:List Tk}(p:x.Cx)(I:Dh l)(i:Da x l=.ok (C,J)):C.Cx/\Dh J/\C.rules=x.rules:=by
 unfold Da at i;cases l with
 | nil=>cases i
 | cons t r=>
  simp only at i;split at i
  ·split at i
   ·cases i
   ·injection i with i
    obtain⟨rfl,rfl⟩:=Prod.mk.inj i;have o:Dh r:=fun t j=>I t (by simp[j])
    refine⟨⟨?_,p.same⟩,o.Is,rfl⟩;intro t j;rcases mA.1 j with j|j
    ·exact p.decl t j
    ·exact o.Pt t j
  ·split at i
   ·split at i
    ·rename_i R P
     injection i with i;obtain⟨rfl,rfl⟩:=Prod.mk.inj i;have o:Dh r:=fun t j=>I t (by simp[j])
     refine⟨⟨p.decl,?_⟩,o.drop 1,rfl⟩;cases r with
     | nil=>simp[Cm]at P
     | cons u T=>simp[p.same]
    ·cases i
   ·cases i
theorem Tx:∀(f:Nat) {x j:Bh} {l p:List Tk},x.Cx->Dh l->FO f x l=.ok (j,p)->j.Cx/\Dh p/\j.rules=x.rules
 | 0,_,_,_,_,_,_,i=>by cases i
 | f+1,x,j,l,p,C,t,i=>by
  simp only[FO]at i;split at i
  ·injection i with i
   obtain⟨rfl,rfl⟩:=Prod.mk.inj i;exact⟨C,t.drop 1,rfl⟩
  ·cases o:Da x l with
   | error e=>rw[o]at i;cases i
   | ok q=>obtain⟨x1,l1⟩:=q;rw[o]at i;obtain⟨I,J,P⟩:=X6 C t o;obtain⟨R,T,U⟩:=Tx f I J i;exact⟨R,T,U.trans P⟩
theorem Sg{l:List Tk}(i:Dh l):∀t∈(BR l).l,t.Cx:=fun t j=>(i.Pt t j).1
theorem PN:∀(f:Nat) {a:List PS} {l:List Tk},a≠[]->(∀s∈a,∀t∈s.l,t.Cx)->Dh l ->
  (DK f a l).1≠[]/\(∀s∈(DK f a l).1,∀t∈s.l,t.Cx)/\Dh (DK f a l).2
 | 0,a,l,h0,o,i=>⟨h0,o,i⟩
 | f+1,a,l,h0,o,i=>by
  simp only[DK];split
  ·refine PN f (by simp) ?_ (i.drop 1).Is
   intro s j;rcases mA.1 j with j|j
   ·exact o s j
   ·rw[mS.1 j];exact Sg (i.drop 1)
  ·exact⟨h0,o,i⟩
theorem O0{l p:List Tk}{r:PR}(j:Dh l)(i:CQ l=.ok (r,p)):r.Cx/\Dh p:=by
 unfold CQ at i;cases l with
 | nil=>cases i
 | cons t rest=>
  simp only at i;split at i
  ·cases i
  rename_i T;split at i
  ·split at i
   ·injection i with i
    obtain⟨rfl,rfl⟩:=Prod.mk.inj i;have o:Dh rest:=fun t R=>j t (by simp[R])
    obtain⟨C,I,J⟩:=PN rest.length (a:=[BR (rest.drop 1)]) (l:=(rest.drop 1).dropWhile Ba) (by simp) (fun s P=>by rw[mS.1 P];exact Sg (o.drop 1)) (o.drop 1).Is;exact⟨⟨(j t (by simp)).1 (by omega),I,C⟩,J.drop 1⟩
   ·cases i
  ·cases i
theorem TO:∀(f:Nat) {a o:List PR} {l:List Tk},(∀r∈a,r.Cx)->Dh l->Fi f a l=.ok o->(∀r∈o,r.Cx)/\(a≠[]->o≠[])
 | 0,_,_,_,_,_,i=>by cases i
 | f+1,a,o,l,ha,I,i=>by
  simp only[Fi]at i;split at i
  ·injection i with i
   subst i;exact⟨ha,id⟩
  ·cases p:CQ l with
   | error e=>rw[p]at i;cases i
   | ok q=>
    obtain⟨r,T⟩:=q;rw[p]at i;obtain⟨t,C⟩:=O0 I p;obtain⟨J,P⟩:=TO f (a:=a++[r]) (fun R j=>by
     rcases mA.1 j with j|j
     ·exact ha R j
     ·rw[mS.1 j];exact t) C i
    exact⟨J,fun _=>P (by simp)⟩
theorem UY{l:List Tk}{x:Bh}(I:Dh l)(i:Fz l=.ok x):x.Cx/\(∀r∈x.rules,r.Cx)/\x.rules≠[]:=by
 unfold Fz at i;cases o:FO (l.length+1) ⟨[],[],[],[]⟩ l with
 | error e=>rw[o]at i;cases i
 | ok q=>
  obtain⟨x1,T⟩:=q;rw[o]at i;obtain⟨t,C,_⟩:=Tx _ ⟨by simp,rfl⟩ I o;simp only at i;cases p:CQ T with
  | error e=>rw[p]at i;cases i
  | ok q=>
   obtain⟨r,U⟩:=q;rw[p]at i;obtain⟨P,R⟩:=O0 C p;simp only at i;cases j:Fi (l.length+1) [r] U with
   | error e=>rw[j]at i;cases i
   | ok rs=>rw[j]at i;injection i with i;subst i;obtain⟨m1,m2⟩:=TO _ (fun r' J=>by rw[mS.1 J];exact P) R j;exact⟨⟨t.decl,t.same⟩,m1,m2 (by simp)⟩
theorem M5{p:UInt8->Bool}(l:List UInt8):l.take (l.takeWhile p).length=l.takeWhile p:=by
 induction l with
 | nil=>rfl
 | cons a r i=>
  rw[List.takeWhile_cons];split
  ·simp[i]
  ·rfl
theorem Sd{p:UInt8->Bool}(l:List UInt8):(l.takeWhile p).all p=true:=by
 induction l with
 | nil=>rfl
 | cons a r i=>
  rw[List.takeWhile_cons];split
  ·rename_i h;simp[h]
  ·rfl
theorem bQ(r:List UInt8)(x:List UInt8):Bg (r.takeWhile EC++39::x)=Bg r:=by
 unfold Bg;induction r with
 | nil=>rfl
 | cons a r i=>
  by_cases h:EC a=true
  ·simp[h]
   simpa using i
  ·simp[h]
   rfl
theorem Ol{sz p:Nat}{l:List UInt8}{k n:Nat}(i:GL sz p l=.ok (k,n)):Tk.Cx ⟨k,l.take n,p⟩/\(0<l.length->0<n):=by
 unfold GL at i;cases l with
 | nil=>injection i with i;obtain⟨rfl,rfl⟩:=Prod.mk.inj i;exact⟨⟨(fun h=>by cases h),(fun h=>by cases h)⟩,fun h=>by simp at h⟩
 | cons c r=>
  simp only at i;split at i
  ·rename_i hw
   injection i with i;obtain⟨rfl,rfl⟩:=Prod.mk.inj i;exact⟨⟨(fun h=>by cases h),(fun h=>by cases h)⟩,fun _=>by unfold B7;simp[hw]⟩
  split at i
  ·unfold Jz at i
   split at i
   ·split at i
    ·cases i
    ·injection i with i;obtain⟨rfl,rfl⟩:=Prod.mk.inj i;exact⟨⟨(fun h=>by cases h),(fun h=>by cases h)⟩,fun _=>by omega⟩
   ·cases i
  split at i
  ·rename_i U
   subst U;unfold JM at i;split at i
   ·cases i
   split at i
   ·cases i
   rename_i o;split at i
   ·cases i
   rename_i h3;injection i with i;obtain⟨rfl,rfl⟩:=Prod.mk.inj i;refine⟨⟨(fun h=>by cases h),fun _=>?_⟩,fun _=>by omega⟩;have t:r[Bg r]?=some 39:=by
    by_cases h:r[Bg r]?=some 39
    ·exact h
    ·exact absurd (.inl h) o
   have R:Bg r≠0:=fun h=>o (.inr h)
   have T:Bg r<r.length:=(sG.1 t).1;have ht:(39::r).take (Bg r+2)=39::(r.takeWhile EC++[39]):=by rw[List.take_succ_cons,List.take_succ_eq_append_getElem T,(sG.1 t).2];congr 2;exact M5 r
   have P:=bQ r [];have J:(r.takeWhile EC).length=Bg r:=rfl;show Cl ((39::r).take (Bg r+2))=true;rw[ht];unfold Cl;rw[List.drop_succ_cons,List.drop_zero,P];simp[J];refine⟨⟨⟨by omega,?_⟩,R⟩,by omega⟩;rw[show (39::(r.takeWhile EC++[(39:UInt8)]))[1+Bg r]?=(r.takeWhile EC++[(39:UInt8)])[Bg r]? by rw[Nat.add_comm];rfl];rw[List.getElem?_append_right (by omega),J];simp
  split at i
  ·unfold Ku at i
   split at i
   ·injection i with i;obtain⟨rfl,rfl⟩:=Prod.mk.inj i;exact⟨⟨(fun h=>by cases h),(fun h=>by cases h)⟩,fun _=>by omega⟩
   split at i
   ·injection i with i;obtain⟨rfl,rfl⟩:=Prod.mk.inj i;exact⟨⟨(fun h=>by cases h),(fun h=>by cases h)⟩,fun _=>by omega⟩
   split at i
   ·injection i with i;obtain⟨rfl,rfl⟩:=Prod.mk.inj i;exact⟨⟨(fun h=>by cases h),(fun h=>by cases h)⟩,fun _=>by omega⟩
   ·cases i
  split at i
  ·rename_i C
   split at i
   ·cases i
   rename_i j;injection i with i;obtain⟨rfl,rfl⟩:=Prod.mk.inj i;have I:Cy c=true:=by unfold Cy;simp[C]
   refine⟨⟨fun _=>?_,(fun h=>by cases h)⟩,fun _=>by unfold B7;simp[I]⟩;show Cg ((c::r).take (B7 Cy (c::r)))=true;unfold B7 at j ⊢;rw[M5];rw[List.takeWhile_cons,if_pos I]at j ⊢;unfold Cg FA;have:=Sd (p:=Cy) r;have e:((r.takeWhile Cy).all fun d=>BD d==4||BD d==3)=true:=this;simp only[e,C,Bool.and_true];simp at j ⊢;omega
  split at i
  ·rename_i P
   injection i with i;obtain⟨rfl,rfl⟩:=Prod.mk.inj i;refine⟨⟨fun h=>?_,fun h=>?_⟩,fun _=>by omega⟩
   ·unfold I2 at h;split at h;· cases h
    split at h;· cases h
    split at h<;>cases h
   ·unfold I2 at h;split at h;· cases h
    split at h;· cases h
    split at h<;>cases h
  ·cases i
theorem Pj{sz:Nat}:∀(f p:Nat) (l:List UInt8) {I:List Tk},E4 sz f p l=.ok I->Dh I
 | 0,_,_,_,i=>by cases i
 | f+1,p,l,I,i=>by
  simp only[E4]at i;split at i
  ·injection i with i;subst i
   intro t j;rw[mS.1 j];exact⟨(fun h=>by cases h),(fun h=>by cases h)⟩
  ·cases o:GL sz p l with
   | error e=>rw[o]at i;cases i
   | ok q=>
    obtain⟨k,n⟩:=q;rw[o]at i;simp only at i;cases C:E4 sz f (p+n) (l.drop n) with
    | error e=>rw[C]at i;cases i
    | ok P=>
     rw[C]at i;injection i with i;subst i;have J:=Pj f _ _ C;split
     ·exact J
     ·intro t j
      rcases List.mem_cons.1 j with rfl|j
      ·exact(Ol o).1
      ·exact J t j
structure PG.Good(g:PG):Prop where
 g1:g.T.length<=120
 g2:g.N.length<=120
 g3:g.R.length<=300
 g4:∀r∈g.R,r.2.length<=8
 g5:∀s∈g.T,(Cg s||Cl s)=true
 g6:∀s∈g.N,Cg s=true
 g7:(g.T++g.N).Nodup
 g8:g.T.length<g.s/\g.s<=g.T.length+g.N.length
 g9:∀r∈g.R,(g.T.length<r.1/\r.1<=g.T.length+g.N.length)/\∀a∈r.2,1<=a/\a<=g.T.length+g.N.length
 g10:g.R.Nodup
 g11:∀i,i<g.N.length->∃r∈g.R,r.1=g.T.length+1+i
 g12:∀i j,i<j->j<g.N.length->g.R.findIdx (fun r=>r.1==g.T.length+1+i)<g.R.findIdx (fun r=>r.1==g.T.length+1+j)
theorem YW{x:Bh}{T:List AO}(t:x.Cx)(i:Gr x=.ok T) :
  (T.length<=120/\T.Nodup/\∀s∈T,(Cg s||Cl s)=true)/\∀st l,x.starts=st::l->leftOf x st.s=true:=by
 unfold Gr at i;cases j:BA (leftOf x) (BW x) x.decl [] with
 | error e=>rw[j]at i;simp only at i;split at i<;>cases i
 | ok C=>
  rw[j]at i;simp only at i;split at i
  ·cases i
  injection i with i;subst i;refine⟨Wo x.decl (BW x) t.decl (by simp) (by simp) (by simp) j,?_⟩;intro st l p;have:∃m,BW x=some (m,st):=by
   unfold BW;rw[p];cases o:x.marks with
   | nil=>have:=t.same;rw[o,p]at this;simp at this
   | cons m I=>exact⟨m,rfl⟩
  obtain⟨m,o⟩:=this;rw[o]at j;exact fT _ j
theorem bK{s:AO}(h:Cg s=true):Cl s=false:=by
 cases s with
 | nil=>rfl
 | cons c r=>
  by_cases i:c=39
  ·subst i
   exfalso;have:Cg (39::r)=false:=by show ((BD 39==4&&(r.all fun d=>BD d==4||BD d==3))&&decide ((39::r).length<=24))=false;rw[show (BD 39==4)=false from rfl];rfl
   rw[this]at h;cases h
  ·unfold Cl
   simp[i]
theorem ME{T N:List AO}{s:AO}(h:s∈T):BY T N s=T.idxOf s+1:=by unfold BY;rw[if_pos (by simpa using h)]
theorem LI{T N:List AO}{s:AO}(h:s ∉ T)(i:s∈N):BY T N s=T.length+N.idxOf s+1:=by unfold BY;rw[if_neg (by simpa using h),if_pos (by simpa using i)]
theorem Ta{T N:List AO}{a c:AO}(ha:a∈T\/a∈N)(j:c∈T\/c∈N)(h:BY T N a=BY T N c):a=c:=by
 have inj:∀{L:List AO} {a c:AO},a∈L->c∈L->L.idxOf a=L.idxOf c->a=c:=by intro L a c ha j h;have l:=List.getElem_idxOf (List.idxOf_lt_length_of_mem ha);have o:=List.getElem_idxOf (List.idxOf_lt_length_of_mem j);rw[<-l,<-o];congr 1
 by_cases i:a∈T
 ·have p:=List.idxOf_lt_length_of_mem i
  rw[ME i]at h;by_cases c1:c∈T
  ·rw[ME c1]at h
   exact inj i c1 (by omega)
  ·rw[LI c1 (j.resolve_left c1)]at h
   omega
 ·rw[LI i (ha.resolve_left i)]at h
  by_cases c1:c∈T
  ·have p:=List.idxOf_lt_length_of_mem c1
   rw[ME c1]at h;omega
  ·rw[LI c1 (j.resolve_left c1)]at h
   exact inj (ha.resolve_left i) (j.resolve_left c1) (by omega)
theorem NY{i:Type}{p q:i->Bool}:∀{l:List i},(∀x∈l,p x=q x)->l.findIdx p=l.findIdx q
 | [],_=>rfl
 | a::r,h=>by rw[List.findIdx_cons,List.findIdx_cons,h a (by simp),NY (fun x j=>h x (by simp[j]))]
theorem Yz{x:Bh}{g:PG}(hx:x.Cx)(l:∀r∈x.rules,r.Cx)(a7:x.rules≠[])(t:Gh x=.ok g):g.Good:=by
 unfold Gh at t;cases R:Gr x with
 | error e=>rw[R]at t;cases t
 | ok T=>
  rw[R]at t;simp only at t;obtain⟨⟨t1,t2,t3⟩,ao⟩:=YW hx R;cases hb:Di (leftOf x) T.length ⟨T,[],[]⟩ x.rules with
  | error e=>rw[hb]at t;cases t
  | ok b=>
   rw[hb]at t;injection t with t;subst t;have aj:C7 (leftOf x) T.length ⟨T,[],[]⟩:=⟨t1,by simp,by simp,t2,by simp,t3,by simp,by simp,by simp,AG _,by simp,by simp⟩
   obtain⟨j,ho,_,hl⟩:=C7.rules x.rules aj ⟨by simp,by simp⟩ l hb;have a6:∀s,leftOf x s=true->s∈b.N:=by intro s o;unfold leftOf at o;obtain⟨r,a9,aa⟩:=List.any_eq_true.1 o;rw[<-beq_iff_eq.1 aa];exact hl r a9
   have ab:∀s∈b.N,s ∉ b.T:=by
    intro s o U;rw[<-List.take_append_drop T.length b.T]at U;rcases mA.1 U with U|U
    ·exact j.i9 s o U
    ·have:=j.i8 s U
     rw[bK (j.i7 s o)]at this;cases this
   have hN:∀s∈b.N,BY b.T b.N s=b.T.length+b.N.idxOf s+1:=fun s o=>LI (ab s o) o
   have a0:∀s∈b.N,b.N.idxOf s<b.N.length:=fun s o=>List.idxOf_lt_length_of_mem o
   have ak:∀i (h:i<b.N.length),b.N.idxOf b.N[i]=i:=by intro i h;have C:=List.getElem_idxOf (a0 _ (List.getElem_mem h));exact(List.getElem_inj j.i5).1 C
   have ae:∀i (h:i<b.N.length),∀r∈b.R,((GC b.T b.N r).1==b.T.length+1+i)=(r.head?==some b.N[i]):=by
    intro i h r l;obtain⟨a,a3,rfl,ha,_⟩:=j.i10 r l;show (BY b.T b.N a==b.T.length+1+i)=(some a==some b.N[i])
    rw[hN a ha,Bool.eq_iff_iff,beq_iff_eq,beq_iff_eq,Option.some.injEq];constructor
    ·intro e
     have e2:b.N.idxOf a=i:=by omega
     have C:=List.getElem_idxOf (a0 a ha);rw[<-C];congr 1
    ·rintro rfl
     rw[ak i h];omega
   have ad:∀i (h:i<b.N.length),(b.R.map (GC b.T b.N)).findIdx (fun r=>r.1==b.T.length+1+i)=b.R.findIdx (fun r=>r.head?==some b.N[i]):=by intro i h;rw[List.findIdx_map];exact NY (fun r l=>ae i h r l)
   refine⟨j.i1,j.i2,?_,?_,j.i6,j.i7,?_,?_,?_,?_,?_,?_⟩
   ·show (b.R.map _).length<=300
    simpa using j.i3
   ·intro r l
    obtain⟨r',a8,rfl⟩:=List.mem_map.1 l;obtain⟨a,a3,rfl,_,h8,_⟩:=j.i10 r' a8;simpa [GC] using h8
   ·show (b.T++b.N).Nodup
    rw[List.nodup_append];refine⟨j.i4,j.i5,?_⟩;rintro a ha c p rfl;exact ab a p ha
   ·show b.T.length<(Ha x b).s/\(Ha x b).s<=b.T.length+b.N.length
    unfold Ha;simp only;cases o:x.starts with
    | nil=>
     simp only;have:0<b.N.length:=by
      cases af:x.rules with
      | nil=>exact absurd af a7
      | cons r a3=>exact List.length_pos_of_mem (hl r (by rw[af];simp))
     omega
    | cons st a3=>simp only;have hm:=a6 _ (ao st a3 o);rw[hN _ hm];have:=a0 _ hm;omega
   ·intro r l
    obtain⟨r',a8,rfl⟩:=List.mem_map.1 l;obtain⟨a,a3,rfl,ha,_,p⟩:=j.i10 r' a8;refine⟨?_,?_⟩
    ·show b.T.length<BY b.T b.N a/\BY b.T b.N a<=b.T.length+b.N.length
     rw[hN a ha];have:=a0 a ha;omega
    ·intro k hk
     obtain⟨c,ai,rfl⟩:=List.mem_map.1 hk;show 1<=BY b.T b.N c/\BY b.T b.N c<=b.T.length+b.N.length;by_cases C:c∈b.T
     ·rw[ME C]
      have:=List.idxOf_lt_length_of_mem C;omega
     ·have J:=a6 c ((p c ai).resolve_left C)
      rw[hN c J];have:=a0 c J;omega
   ·show (b.R.map (GC b.T b.N)).Nodup
    rw[List.Nodup,List.pairwise_map];refine j.i11.imp_of_mem ?_;intro r1 r2 a9 aa a7;obtain⟨a1,P,rfl,ha1,_,ag⟩:=j.i10 r1 a9;obtain⟨a2,I,rfl,ha2,_,ah⟩:=j.i10 r2 aa;intro e;apply a7;have e1:BY b.T b.N a1=BY b.T b.N a2:=congrArg Prod.fst e;have e2:P.map (BY b.T b.N)=I.map (BY b.T b.N):=congrArg Prod.snd e;have R:∀c,(c∈b.T\/leftOf x c=true)->(c∈b.T\/c∈b.N):=fun c h=>h.imp id (a6 c)
    have an:∀{P I:List AO},(∀c∈P,c∈b.T\/c∈b.N)->(∀c∈I,c∈b.T\/c∈b.N)->P.map (BY b.T b.N)=I.map (BY b.T b.N)->P=I:=by
     intro P;induction P with
     | nil=>intro I _ _ e;cases I with
      | nil=>rfl
      | cons _ _=>cases e
     | cons c r ih=>intro I C J e;cases I with
      | nil=>cases e
      | cons d r2=>rw[List.map_cons,List.map_cons]at e;injection e with e1 e2;rw[Ta (C c (by simp)) (J d (by simp)) e1,ih (fun c p=>C c (by simp[p])) (fun c p=>J c (by simp[p])) e2]
    rw[Ta (.inr ha1) (.inr ha2) e1,an (fun c p=>R c (ag c p)) (fun c p=>R c (ah c p)) e2]
   ·intro i a4
    have a4:i<b.N.length:=a4;obtain⟨r,l,J⟩:=ho.mem b.N[i] (List.getElem_mem a4);refine⟨_,List.mem_map.2 ⟨r,l,rfl⟩,?_⟩;have:=ae i a4 r l;rw[J]at this;exact beq_iff_eq.1 (this.trans (by simp))
   ·intro i a5 al hj
    have hj:a5<b.N.length:=hj;show (b.R.map (GC b.T b.N)).findIdx (fun r=>r.1==b.T.length+1+i)<(b.R.map (GC b.T b.N)).findIdx (fun r=>r.1==b.T.length+1+a5);rw[ad i (by omega),ad a5 hj];exact ho.ord i a5 al _ _ (eG (by omega)) (eG hj)
theorem NX{s:List UInt8}{g:PG}(i:E9 s=.ok g):g.Good:=by
 unfold E9 at i;cases j:tokens s with
 | error e=>rw[j]at i;cases i
 | ok l=>
  rw[j]at i;simp only at i;have I:Dh l:=by
   unfold tokens at j;split at j
   ·cases j
   ·exact Pj _ _ _ j
  cases o:Fz l with
  | error e=>rw[o]at i;cases i
  | ok x=>rw[o]at i;obtain⟨p,t,C⟩:=UY I o;exact Yz p t C i
theorem Zy{a:AO}(h:Cg a=true):∃c r,a=c::r/\BD c=4/\(c::r).all Cy=true/\(c::r).length<=24:=by
 cases a with
 | nil=>cases h
 | cons c r=>unfold Cg FA at h;simp only[Bool.and_eq_true,decide_eq_true_eq,beq_iff_eq]at h;obtain⟨⟨i,o⟩,l⟩:=h;refine⟨c,r,rfl,i,?_,l⟩;have j:r.all Cy=true:=o;simp only[List.all_cons,j,Bool.and_true];simp[Cy,i]
theorem cW{a:AO}(h:Cl a=true):∃m,a=39::(m++[39])/\m.all EC=true/\m≠[]/\m.length<23:=by
 cases a with
 | nil=>cases h
 | cons c r=>
  unfold Cl at h;simp only[List.head?_cons,List.drop_succ_cons,List.drop_zero,Bool.and_eq_true,beq_iff_eq,decide_eq_true_eq,bne_iff_ne,ne_eq,Option.some.injEq,List.length_cons]at h;obtain⟨⟨rfl,⟨⟨o,i⟩,j⟩,p⟩,t⟩:=h;rw[Nat.add_comm,List.getElem?_cons_succ]at i;have l:Bg r<r.length:=(sG.1 i).1;refine⟨r.takeWhile EC,?_,Sd r,?_,?_⟩
  ·have:r=r.take (Bg r+1):=(Ds (by omega)).symm
   rw[List.take_succ_eq_append_getElem l,(sG.1 i).2]at this;have e:r.take (Bg r)=r.takeWhile EC:=M5 r;rw[e]at this;rw[<-this]
  ·intro e
   apply j;unfold Bg;rw[e];rfl
  ·show Bg r<23
   omega
namespace PG
end PG
namespace PG
end PG
namespace PG
variable {g:PG}
end PG
def AY(S k:Nat):Nat:=S/2 ^ (64*k)%18446744073709551616
def nW(n:Nat):Nat:=(n+63)/64
theorem J0(S k:Nat):AY S k<18446744073709551616:=Nat.mod_lt _ (by decide)
theorem Hr(S k j:Nat):(AY S k).testBit j=(decide (j<64)&&S.testBit (64*k+j)):=by unfold AY;rw[show (18446744073709551616:Nat)=2 ^ 64 from rfl,Nat.testBit_mod_two_pow,Nat.testBit_div_two_pow,Nat.add_comm]
theorem Ny(S T k:Nat):AY (S|||T) k=AY S k|||AY T k:=by apply Nat.eq_of_testBit_eq;intro j;rw[Nat.testBit_or,Hr,Hr,Hr,Nat.testBit_or];cases decide (j<64)<;>simp
theorem NA{S n i:Nat}(h:S<2 ^ n)(j:n<=i):S.testBit i=false:=Nat.testBit_lt_two_pow (A0 h (Nat.pow_le_pow_right (by decide) j))
theorem Rb{S T n:Nat}(i:S<2 ^ n)(j:T<2 ^ n):S|||T<2 ^ n:=Nat.or_lt_two_pow i j
theorem bY{n i:Nat}(j:i<n):2 ^ i<2 ^ n:=Nat.pow_lt_pow_right (by decide) j
theorem Tm(i k:Nat):AY (2 ^ i) k=if k=i/64 then 2 ^ (i%64) else 0:=by
 apply Nat.eq_of_testBit_eq;intro j;rw[Hr,Nat.testBit_two_pow];split
 ·rename_i o
  rw[Nat.testBit_two_pow];by_cases l:j<64
  ·rw[decide_eq_true l,Bool.true_and,decide_eq_decide]
   omega
  ·rw[decide_eq_false l,Bool.false_and]
   symm;rw[decide_eq_false_iff_not];omega
 ·rw[Nat.zero_testBit]
  by_cases l:j<64
  ·rw[decide_eq_true l,Bool.true_and,decide_eq_false_iff_not]
   omega
  ·rw[decide_eq_false l,Bool.false_and]
theorem WT(x j:Nat):x &&& 2 ^ j=if x.testBit j then 2 ^ j else 0:=by
 apply Nat.eq_of_testBit_eq;intro i;rw[Nat.testBit_and,Nat.testBit_two_pow];by_cases l:j=i
 ·subst l
  cases h:x.testBit j<;>simp[Nat.testBit_two_pow_self]
 ·rw[decide_eq_false l,Bool.and_false]
  split
  ·rw[Nat.testBit_two_pow_of_ne l]
  ·rw[Nat.zero_testBit]
theorem TK(S i:Nat):AY S (i/64) &&& 2 ^ (i%64)=if S.testBit i then 2 ^ (i%64) else 0:=by rw[WT,Hr,decide_eq_true (by omega:i%64<64),Bool.true_and,show 64*(i/64)+i%64=i by omega]
theorem aW(S i:Nat):AY (S|||2 ^ i) (i/64)=AY S (i/64)|||2 ^ (i%64):=by rw[Ny,Tm,if_pos rfl]
theorem Ye(S i k:Nat)(h:k≠i/64):AY (S|||2 ^ i) k=AY S k:=by rw[Ny,Tm,if_neg h,Nat.or_zero]
theorem dO{S n:Nat}(h:S<2 ^ n)(l:n%64≠0):AY S (nW n-1) &&& (2 ^ (n%64)-1)=AY S (nW n-1):=by
 apply Nat.eq_of_testBit_eq;intro j;rw[Nat.testBit_and,Nat.testBit_two_pow_sub_one,Hr];by_cases i:j<n%64
 ·rw[decide_eq_true i,Bool.and_true]
 ·rw[NA h (by unfold nW;omega)]
  simp
theorem S5(S i j:Nat):(AY S (i/64)/2 ^ (i%64)).testBit j=(decide (j+i%64<64)&&S.testBit (i+j)):=by rw[Nat.testBit_div_two_pow,Hr,show 64*(i/64)+(j+i%64)=i+j by omega]
def Bl(n S:Nat):List Nat:=(List.range n).filter fun i=>S.testBit i
def KT(n S i:Nat):Option Nat:=((List.range n).filter fun j=>decide (i<=j)&&S.testBit j).head?
theorem gV{n S i k:Nat}(C:k<n)(p:S.testBit k=true)(t:i<=k)(h:∀j,i<=j->j<k->S.testBit j=false):KT n S i=some k:=by
 unfold KT;rw[show n=k+(n-k) by omega,List.range_add,List.filter_append,List.filter_eq_nil_iff.2,List.nil_append]
 ·rw[show n-k=(n-k-1)+1 by omega,List.range_succ_eq_map,List.map_cons,List.filter_cons,if_pos (by simp[p,t])]
  rfl
 ·intro j o
  rw[List.mem_range]at o;by_cases l:i<=j
  ·simp[h j l o]
  ·simp[l]
theorem bT{n S i:Nat}(h:∀j,i<=j->j<n->S.testBit j=false):KT n S i=none:=by
 unfold KT;rw[List.filter_eq_nil_iff.2]
 ·rfl
 ·intro j o
  rw[List.mem_range]at o;by_cases l:i<=j
  ·simp[h j l o]
  ·simp[l]
structure Aj(X:Nat->Prop)(w w':World):Prop where
 os:w'.os=w.os
 tape:w'.tape=w.tape
 output:w'.output=w.output
 size:w.heap.size<=w'.heap.size
 block:∀k,k<w.heap.size->¬X k->w'.heap[k]?=w.heap[k]?
namespace Aj
variable {X Y:Nat->Prop} {a b c:World}
theorem refl(X:Nat->Prop)(w:World):Aj X w w:=⟨rfl,rfl,rfl,AG _,fun _ _ _=>rfl⟩
theorem AH(h:Below a.heap.size a b):Aj X a b:=⟨h.os,h.tape,h.output,h.size,fun k i _=>h.block k i⟩
theorem trans(h:Aj X a b)(k:Aj Y b c)(o:∀i,i<a.heap.size->Y i->X i):Aj X a c:=
 ⟨k.os.trans h.os,k.tape.trans h.tape,k.output.trans h.output,AX h.size k.size,fun i j l=>(k.block i (A0 j h.size) (fun p=>l (o i j p))).trans (h.block i j l)⟩
theorem next(h:Aj X a b)(k:Aj X b c):Aj X a c:=h.trans k fun _ _ h=>h
theorem mono(h:Aj X a b)(j:∀i,X i->Y i):Aj Y a b:=⟨h.os,h.tape,h.output,h.size,fun i l p=>h.block i l (fun o=>p (j i o))⟩
theorem alloc(h:Aj X a b)(o:Obj):Aj X a (b.alloc o):=h.next (AH ⟨rfl,rfl,rfl,by simp,fun k i=>Below.heap_alloc _ _ _ i⟩)
theorem drew(h:Aj X a b):Aj X a b.drew:=⟨h.os,h.tape,h.output,h.size,h.block⟩
theorem set(h:Aj X a b){p:Addr}(i:a.heap.size<=p.block\/X p.block)(u:Value):Aj X a (b.setCell p u):=
 ⟨h.os,h.tape,h.output,by simpa [World.setCell] using h.size,fun k l j=>(Below.heap_setCell _ _ _ _ (by rintro rfl;rcases i with i|i;omega;exact j i)).trans (h.block k l j)⟩
theorem An{g:Nat}{t:TypeId}{cs:Array Value}(h:Aj X a b)(i:Ah a g t cs)(j:¬X g):Ah b g t cs:=(h.block g i.lt j).trans i
theorem own{base:Nat}{e:TypeId}{size n:Nat}{v:Value}{xs:List Value}(h:Aj X a b)(j:a.ownsRow base e size v n xs)(t:∀g,v.ownBlock=some g->¬X g):b.ownsRow base e size v n xs:=by
 refine⟨j.1,?_⟩;rcases j.2 with p|⟨g,cap,l,rfl,o,i,rest⟩
 ·exact .inl p
 ·refine .inr ⟨g,cap,l,rfl,o,?_,rest⟩
  rw[h.block g (aG.1 i).1 (t g rfl),i]
theorem below(h:Aj X a b){B:Nat}(l:B<=a.heap.size)(i:∀k,k<B->¬X k):Below B a b:=⟨h.os,h.tape,h.output,h.size,fun k j=>h.block k (by omega) (i k j)⟩
end Aj
structure AA where
 h:Nat
 wb:Nat
 n:Nat
def CK(n S:Nat):Array Value:=((List.range (nW n)).map fun k=>Value.int .u64 (AY S k:Nat)).toArray
structure AK(w:World)(s:AA)(S:Nat):Prop where
 head:Ah w s.h 161 #[.int .i64 s.n,.slice (some ⟨s.wb,0,none⟩) (nW s.n) (nW s.n)]
 words:Ah w s.wb 156 (CK s.n S)
 small:1<=s.n/\s.n<=4096
 fit:S<2 ^ s.n
def AA.v(s:AA):Value:=.pointer (some ⟨s.h,0,none⟩)
theorem On(n S k:Nat)(h:k<nW n):(CK n S)[k]?=some (.int .u64 (AY S k:Nat)):=by unfold CK;rw[List.getElem?_toArray,pG,List.getElem?_range h];rfl
theorem Ah.newAt{w:World}{b:Nat}{t:TypeId}{cs:Array Value}(i:w.heap.size=b):Ah (w.alloc (.cells cs t)) b t cs:=by subst i;exact Ah.new w t cs
theorem IV{P:Program}{t e:TypeId}{z:Value}{bytes:Nat}(I:P.underlying t=some (.slice e))(h:(P.info? e).map (fun i=>(i.zero,i.size,i.bytes))=some (some z,1,bytes))(J:z.cells=#[z]){l:Int}{n:Nat}(p:l=n)(hb:bytes*n<=281474976710656)(hn:n<=4611686018427387904)(y:World) :
  (Instr.makeSlice t (.int .i64 l) (.int .i64 l)).run P y=.ok (.slice (some ⟨y.heap.size,0,none⟩) n n) (y.alloc (.cells (Array.replicate n z) e)):=by
 obtain⟨i,o,R,T,U⟩:=info_parts h;subst p;have j:(i.bytes:Int)*(n:Int)<=281474976710656:=by rw[U,<-Int.natCast_mul];omega
 have C:=run_make (P:=P) y t e i z I o R .i64 .i64 n n (by omega) (Int.le_refl _) j (by omega);rw[C,T,Int.toNat_natCast,Nat.mul_one,J];congr 4;unfold madeCells;apply Array.ext
 ·simp
 ·intro a0 h1 j
  simp[Nat.mod_one]
theorem bU(n:Nat):CK n 0=Array.replicate (nW n) (.int .u64 0):=by
 unfold CK;apply Array.ext
 ·simp
 ·intro j i l
  simp[AY]
theorem JP{w:World}{n:Nat}(i:1<=n)(j:n<=4096):Calls Tryz.prog 84 #[.int .i64 n] w fun e w'=>e=.returned (AA.v ⟨w.heap.size+1,w.heap.size,n⟩)/\AK w' ⟨w.heap.size+1,w.heap.size,n⟩ 0/\Below w.heap.size w w':=by
 have l:=fun y=>IV (P:=Tryz.prog) (t:=159) (e:=156) (z:=.int .u64 0) (bytes:=8) Tryz.underlying159 (by kernel_rfl) rfl (l:=((n:Int)+63)/64) (n:=nW n) (by unfold nW;omega) (by unfold nW;omega) (by unfold nW;omega) y
 rw[<-bU]at l;go_enter Tryz.func84,Tryz.ntmps84
 go_wp2;go_ret;refine⟨rfl,⟨?_,?_,⟨i,j⟩,Nat.two_pow_pos _⟩,?_⟩
 ·exact Ah.newAt (by simp)
 ·exact(Ah.new w _ _).alloc _
 ·exact((Below.refl _ w).alloc (AG _) _).alloc (by simp) _
theorem MY(i:Nat)(j:i<9223372036854775808):bits .and .i64 (i:Int) 63=((i%64:Nat):Int):=by show IntKind.i64.wrap ((BitVec.ofInt 64 (i:Int) &&& BitVec.ofInt 64 ((63:Nat):Int)).toNat:Int)=_;rw[BitVec.toNat_and,ofInt_u64 i (by omega),ofInt_u64 63 (by omega),nat_mask6,IntKind.wrap_i64];omega
theorem QK(i:Nat):IntKind.u64.wrap (2 ^ min (IntKind.u64.wrap ((i%64:Nat):Int)).toNat 64)=((2 ^ (i%64):Nat):Int):=by
 have h:i%64<64:=by omega
 simp only[IntKind.wrap_u64];rw[show (((i%64:Nat):Int)%18446744073709551616).toNat=i%64 by omega,Nat.min_eq_left (by omega)];have l:2 ^ (i%64)<2 ^ 64:=Nat.pow_lt_pow_right (by decide) h;have j:((2:Int) ^ (i%64))=((2 ^ (i%64):Nat):Int):=by norm_cast
 rw[j];clear j;generalize 2 ^ (i%64)=p at *;omega
theorem NI{a b:Bool}(h:a=b):Ending.returned (.bool a)=Ending.returned (.bool b):=by rw[h]
section
variable {w:World} {s:AA} {S:Nat}
theorem AK.later{w':World}(h:AK w s S)(i:Below w.heap.size w w'):AK w' s S:=⟨h.head.below i h.head.lt,h.words.below i h.words.lt,h.small,h.fit⟩
theorem AK.cells(h:AK w s S):w.cell? ⟨s.h,0,none⟩=some (.int .i64 s.n)/\w.cell? ⟨s.h,1,none⟩=some (.slice (some ⟨s.wb,0,none⟩) (nW s.n) (nW s.n)):=⟨h.head.cell 0,h.head.cell 1⟩
theorem AK.word(h:AK w s S){k:Nat}(i:k<nW s.n):w.cell? ⟨s.wb,k,none⟩=some (.int .u64 (AY S k:Nat)):=(h.words.cell k).trans (On _ _ _ i)
theorem AK.Aw{X:Nat->Prop}{w':World}(h:AK w s S)(i:Aj X w w')(j:¬X s.h)(l:¬X s.wb):AK w' s S:=⟨i.An h.head j,i.An h.words l,h.small,h.fit⟩
theorem AK.ne(h:AK w s S):s.h≠s.wb:=Ah.A8 h.head h.words (by decide)
set_option maxRecDepth 100000
theorem Mn(h:AK w s S):Calls Tryz.prog 137 #[s.v] w fun e w'=>e=.returned (.int .i64 s.n)/\w'=w:=by
 obtain⟨i,-⟩:=h.cells;unfold AA.v;go_enter Tryz.func137,Tryz.ntmps137
 go_wp2;go_ret;exact⟨rfl,rfl⟩
theorem Ti(h:AK w s S){i:Nat}(l:i<s.n):Calls Tryz.prog 87 #[s.v,.int .i64 i] w fun e w'=>e=.returned (.tuple #[.int .i64 ((i/64:Nat):Int),.int .u64 ((2 ^ (i%64):Nat):Int),.bool true])/\w'=w:=by
 have j:=Hd (Mn h);unfold AA.v at *;go_enter Tryz.func87,Tryz.ntmps87
 go_wp2_with (go_at_call 137;refine j.out.mono ?_;rintro e w' ⟨rfl,rfl⟩)
 rw[MY i (by have:=h.small;omega),QK]
 go_ret3
 exact⟨rfl,rfl⟩
theorem LK(h:AK w s S){i:Nat}(p:i<s.n):Calls Tryz.prog 39 #[s.v,.int .i64 i] w fun e w'=>e=.returned (.bool (S.testBit i))/\w'=w:=by
 have o:=Hd (Ti h p);obtain⟨-,c1⟩:=h.cells;have t:i/64<nW s.n:=by unfold nW;omega
 have c2:=h.word t;have l:=J0 S (i/64);have C:2 ^ (i%64)<18446744073709551616:=Nat.pow_lt_pow_right (a:=2) (m:=i%64) (n:=64) (by decide) (by omega);have ha:=u64_and_nat _ _ l C;rw[TK]at ha;unfold AA.v at *;cases j:S.testBit i with
 | true=>
  rw[j,if_pos rfl]at ha;have I:¬(2 ^ (i%64)=0):=Nat.ne_of_gt (Nat.two_pow_pos _);generalize 2 ^ (i%64)=b at *;generalize AY S (i/64)=u at *;generalize i/64=k at *;generalize nW s.n=m at *;clear j l;go_enter Tryz.func39,Tryz.ntmps39
  go_wp2_with (go_at_call 87;refine o.out.mono ?_;rintro e w' ⟨rfl,rfl⟩)
  go_ret;exact⟨NI (by simp[I]),rfl⟩
 | false=>
  rw[j,if_neg (by simp)]at ha;generalize 2 ^ (i%64)=b at *;generalize AY S (i/64)=u at *;generalize i/64=k at *;generalize nW s.n=m at *;clear j l;go_enter Tryz.func39,Tryz.ntmps39
  go_wp2_with (go_at_call 87;refine o.out.mono ?_;rintro e w' ⟨rfl,rfl⟩)
  go_ret;exact⟨rfl,rfl⟩
theorem AK.set(h:AK w s S){k:Nat}(J:k<nW s.n){T:Nat}(t:T<2 ^ s.n)(o:∀j,j≠k->AY T j=AY S j){u:Int}(C:u=(AY T k:Nat)):AK (w.setCell ⟨s.wb,k,none⟩ (.int .u64 u)) s T:=by
 subst C;refine⟨h.head.BE h.ne _,?_,h.small,t⟩;have p:=h.words.Bn k (.int .u64 (AY T k:Nat));have e:(CK s.n S).setIfInBounds k (.int .u64 (AY T k:Nat))=CK s.n T:=by
  unfold CK;apply Array.ext
  ·simp
  ·intro j I l
   rw[Array.getElem_setIfInBounds (by simpa using l)];simp only[List.getElem_toArray,List.getElem_map,List.getElem_range];split
   ·rename_i i
    subst i;rfl
   ·rename_i i
    rw[o j (fun e=>i e.symm)]
 rw[<-e];exact p
def AA.X(s:AA)(k:Nat):Prop:=k=s.wb
theorem I9(h:AK w s S){i:Nat}(C:i<s.n):Calls Tryz.prog 86 #[s.v,.int .i64 i] w fun e w'=>e=.returned (.bool (!S.testBit i))/\AK w' s (S|||2 ^ i)/\Aj s.X w w':=by
 have p:=Hd (Ti h C);have T:=Hd h;obtain⟨-,c1⟩:=h.cells;have J:i/64<nW s.n:=by unfold nW;omega
 have c2:=h.word J;have o:=J0 S (i/64);have R:2 ^ (i%64)<18446744073709551616:=Nat.pow_lt_pow_right (a:=2) (m:=i%64) (n:=64) (by decide) (by omega);have ha:=u64_and_nat _ _ o R;have P:=u64_or_nat _ _ o R;rw[TK]at ha;rw[<-aW]at P;have a0:=h.words.frozen (i/64);cases l:S.testBit i with
 | true=>
  have t:S|||2 ^ i=S:=by
   apply Nat.eq_of_testBit_eq;intro j;rw[Nat.testBit_or,Nat.testBit_two_pow];by_cases I:i=j
   ·subst I;rw[l];rfl
   ·rw[decide_eq_false I,Bool.or_false]
  rw[l,if_pos rfl]at ha;have a1:¬(2 ^ (i%64)=0):=Nat.ne_of_gt (Nat.two_pow_pos _);have a2:(((2 ^ (i%64):Nat):Int) != 0)=true:=by rw[bne_iff_ne];omega
  rw[t]at *;clear P t;unfold AA.v at *;generalize 2 ^ (i%64)=b at *;generalize AY S (i/64)=u at *;generalize i/64=k at *;generalize nW s.n=m at *;clear l o h a0;go_enter Tryz.func86,Tryz.ntmps86
  go_wp2_with (go_at_call 87;refine p.out.mono ?_;rintro e w' ⟨rfl,rfl⟩)
  go_ret;exact⟨rfl,T.out,Aj.refl _ _⟩
 | false=>
  have U:Hid (AK (w.setCell ⟨s.wb,i/64,none⟩ (.int .u64 (AY (S|||2 ^ i) (i/64):Nat))) s (S|||2 ^ i)):=Hd (h.set J (Rb h.fit (bY C)) (fun j hj=>Ye S i j hj) rfl);rw[l,if_neg (by simp)]at ha;unfold AA.v at *;generalize 2 ^ (i%64)=b at *;generalize AY S (i/64)=u at *;generalize AY (S|||2 ^ i) (i/64)=u2 at *;generalize i/64=k at *;generalize nW s.n=m at *;clear l o h;go_enter Tryz.func86,Tryz.ntmps86
  go_wp2_with (go_at_call 87;refine p.out.mono ?_;rintro e w' ⟨rfl,rfl⟩)
  go_ret;exact⟨rfl,U.out,(Aj.refl s.X _).set (p:=⟨s.wb,k,none⟩) (.inr rfl) _⟩
end
theorem YV:El Tryz.prog 159 156 1 8:=El.of (z:=.int .u64 0) Tryz.underlying159 (by kernel_rfl) rfl (by decide)
theorem Ea(w:World)(o:Obj):Below w.heap.size w (w.alloc o):=(Below.refl _ w).alloc (AG _) o
theorem Wy{w:World}{ad:Addr}{n c:Nat}{xs:List Value}(l:∀y,Below w.heap.size w y->Bc y (.slice (some ad) n c) n 1 xs)(T:n<=1048576) :
  Calls Tryz.prog 217 #[.slice (some ad) n c] w fun e w'=>∃A j,e=.returned (.slice A n j)/\w'.ownsRow w.heap.size 156 1 (.slice A n j) n xs/\Below w.heap.size w w':=by
 have I:=Hd l;have J:Hid (∀y:World,y=w.alloc (.cells #[] 156)->y.ownsRow w.heap.size 156 1 (.slice (some ⟨w.heap.size,0,none⟩) 0 0) 0 []):=Hd (fun y P=>by rw[P];exact OO (W:=w) rfl (AG _) (by decide) rfl);have U:∀(y:World) (ad:Addr) (n c:Nat),(binOp BinOp.eql 159 (.slice (some ad) n c) (.slice none 0 0)).run Tryz.prog y=.ok (.bool false) y:=fun _ _ _ _=>by kernel_rfl
 clear l;go_enter Tryz.func217,Tryz.ntmps217
 go_wp2_with (
   at_builtin;refine DA YV (.tmp 5) (.tmp 6) rfl rfl (base:=w.heap.size) (n:=0) (m:=n) (N:=n) (xs:=[]) (news:=xs) rfl rfl (J.out _ rfl) (I.out _ (Ea w _)) (by omega) (by unfold maxLen;omega) (by omega) (by simp) ?_
   intro C c2 t o p R;have i:Hid (t.ownsRow w.heap.size 156 1 (.slice C n c2) n xs/\Below w.heap.size w t):=Hd ⟨by simpa using o,(Ea w _).trans (p.below (by simp))⟩;clear o p R)
 go_ret;exact⟨_,_,rfl,i.out.1,i.out.2⟩
theorem QV{i:Type}{l:List i}{k:Nat}{v:i}(h:l[k]?=some v):l.set k v=l:=by obtain⟨j,rfl⟩:=sG.1 h;exact List.set_getElem_self j
section
variable {w:World} {s:AA} {S:Nat}
theorem AK.src(h:AK w s S):Bc w (.slice (some ⟨s.wb,0,none⟩) (nW s.n) (nW s.n)) (nW s.n) 1 (CK s.n S).toList:=by
 refine Bc.An (g:=s.wb) (t:=156) (by simpa using h.words) ?_ ?_
 ·unfold CK;simp
 ·intro u i
  unfold CK at i;simp only[List.mem_map]at i;obtain⟨k,_,rfl⟩:=i;rfl
theorem ZD(h:AK w s S):Calls Tryz.prog 201 #[s.v,.int .i64 s.n] w fun e w'=>∃A c,e=.returned (.slice A (nW s.n) c)/\w'.ownsRow w.heap.size 156 1 (.slice A (nW s.n) c) (nW s.n) (CK s.n S).toList/\Below w.heap.size w w':=by
 have t:=Hd (Wy (n:=nW s.n) (c:=nW s.n) (ad:=⟨s.wb,0,none⟩) (fun y hy=>(h.later hy).src) (by have:=h.small;unfold nW;omega));obtain⟨c0,c1⟩:=h.cells;have ag:=h.small;have hm:((s.n:Int)+63)/64=(nW s.n:Nat):=by unfold nW;omega
 have T:1<=nW s.n:=by unfold nW;omega
 have a0:=MY s.n (by omega);have P:s.n%64≠0->AY S (nW s.n-1) &&& (2 ^ (s.n%64)-1)=AY S (nW s.n-1):=dO h.fit;have a8:(CK s.n S).toList.length=nW s.n:=by unfold CK;simp
 have C:(CK s.n S).toList[nW s.n-1]?=some (.int .u64 (AY S (nW s.n-1):Nat)):=by have:=On s.n S (nW s.n-1) (by omega);simpa using this
 have U:=J0 S (nW s.n-1);have af:=QK s.n;have hp:2 ^ (s.n%64)<18446744073709551616:=Nat.pow_lt_pow_right (a:=2) (m:=s.n%64) (n:=64) (by decide) (by omega);have aa:0<2 ^ (s.n%64):=Nat.two_pow_pos _;have hand:=u64_and_nat (AY S (nW s.n-1)) (2 ^ (s.n%64)-1) U (by omega);have a2:w.frozen? ⟨s.h,0,none⟩=false:=h.head.frozen 0;unfold AA.v;generalize (CK s.n S).toList=xs at *;generalize a9:nW s.n=m at *;generalize s.n%64=r at *;generalize 2 ^ r=p at *;generalize AY S (m-1)=u at *;clear h;by_cases I:r=0
 ·subst I
  go_enter Tryz.func201,Tryz.ntmps201
  go_wp2_with (go_at_call 217;refine t.out.mono ?_;rintro e w' ⟨A,c,rfl,i,j⟩;have o:=Hd i;have l:=Hd j;clear i j)
  go_ret;exact⟨_,_,rfl,o.out,l.out⟩
 ·rw[P I]at hand
  have J:(0:Int)<(m:Int):=by omega
  have ad:IntKind.u64.wrap ((p:Int)-1)=((p-1:Nat):Int):=by rw[IntKind.wrap_u64];omega
  have ae:((r:Int) != 0)=true:=by rw[bne_iff_ne];omega
  have ab:0<m:=T;clear J;go_enter Tryz.func201,Tryz.ntmps201
  go_wp2_with (
    go_at_call 217;refine t.out.mono ?_;rintro e w' ⟨A,c,rfl,i,j⟩
    have o:=Hd i;have l:=Hd j;rcases Bv i with⟨_,h0⟩|⟨g,c',R,a4,a5,a6,a7,-⟩
    ·omega
    cases R
    have a1:=(Bf i (m-1) (by omega)).trans C;have a3:=GX i (m-1);clear i j)
  go_ret;refine⟨_,_,rfl,?_,l.out.trans ?_⟩
  ·have h:=GD o.out (m-1) (by omega) (.int .u64 u)
   rwa [QV C]at h
  ·exact⟨rfl,rfl,rfl,by simp[World.setCell],fun k hk=>Below.heap_setCell _ _ _ _ (by show k≠g;omega)⟩
theorem ZR(w:World)(n:Int):Calls Tryz.prog 201 #[.pointer none,.int .i64 n] w fun e w'=>e=.returned (.slice none 0 0)/\w'=w:=by
 go_enter Tryz.func201,Tryz.ntmps201
 go_wp2;go_ret;exact⟨rfl,rfl⟩
def C4(S T j:Nat):Nat:=S|||(T%2 ^ (64*j))
theorem Z0(T j k:Nat):AY (T%2 ^ (64*j)) k=if k<j then AY T k else 0:=by
 apply Nat.eq_of_testBit_eq;intro i;rw[Hr,Nat.testBit_mod_two_pow];split
 ·rename_i h
  rw[Hr];by_cases l:i<64
  ·rw[decide_eq_true (by omega:64*k+i<64*j),Bool.true_and]
  ·rw[decide_eq_false l,Bool.false_and,Bool.false_and]
 ·rename_i h
  rw[decide_eq_false (by omega:¬64*k+i<64*j),Bool.false_and,Bool.and_false,Nat.zero_testBit]
theorem JQ(S T j k:Nat):AY (C4 S T j) k=if k<j then AY S k|||AY T k else AY S k:=by
 unfold C4;rw[Ny,Z0];split
 ·rfl
 ·rw[Nat.or_zero]
theorem dS{S T n:Nat}(i:S<2 ^ n)(l:T<2 ^ n)(j:Nat):C4 S T j<2 ^ n:=Rb i (Nat.lt_of_le_of_lt (Nat.mod_le _ _) l)
theorem Rs(S T:Nat):C4 S T 0=S:=by unfold C4;simp[Nat.mod_one]
theorem Yj{S T n:Nat}(j:S<2 ^ n)(i:T<2 ^ n):C4 S T (nW n)=S|||T:=by unfold C4;rw[Nat.mod_eq_of_lt];exact A0 i (Nat.pow_le_pow_right (by decide) (by unfold nW;omega))
theorem fN{a b:Nat}(ha:a<18446744073709551616)(C:b<18446744073709551616):a &&& (18446744073709551615-b)=0<->b|||a=b:=by
 have o:∀i,(18446744073709551615-b).testBit i=(decide (i<64)&&!b.testBit i):=by intro i;have:=Nat.testBit_two_pow_sub_succ (n:=64) (x:=b) (by omega) i;rw[show 2 ^ 64-(b+1)=18446744073709551615-b by omega]at this;exact this
 constructor
 ·intro h
  apply Nat.eq_of_testBit_eq;intro i;have j:=congrArg (fun x=>x.testBit i) h;simp only[Nat.testBit_and,o,Nat.zero_testBit]at j;rw[Nat.testBit_or];by_cases p:i<64
  ·rw[decide_eq_true p,Bool.true_and]at j
   cases l:a.testBit i
   ·rw[Bool.or_false]
   ·rw[l,Bool.true_and]at j
    cases t:b.testBit i
    ·rw[t]at j;cases j
    ·rfl
  ·rw[NA (n:=64) ha (by omega),Bool.or_false]
 ·intro h
  apply Nat.eq_of_testBit_eq;intro i;have j:=congrArg (fun x=>x.testBit i) h;simp only[Nat.testBit_or]at j;rw[Nat.testBit_and,o,Nat.zero_testBit];cases l:a.testBit i
  ·rw[Bool.false_and]
  ·rw[l,Bool.or_true]at j
   rw[<-j];simp
theorem aZ{S T j:Nat}:C4 S T (j+1)=C4 S T j<->AY S j|||AY T j=AY S j:=by
 constructor
 ·intro h
  have:=congrArg (fun x=>AY x j) h;simp only[JQ]at this;rwa [if_pos (by omega),if_neg (by omega)]at this
 ·intro h
  apply Nat.eq_of_testBit_eq;intro i;have e:∀x:Nat,x.testBit i=(AY x (i/64)).testBit (i%64):=fun x=>by rw[Hr,decide_eq_true (by omega:i%64<64),Bool.true_and,show 64*(i/64)+i%64=i by omega]
  rw[e,e,JQ,JQ];by_cases o:i/64=j
  ·rw[o,if_pos (by omega),if_neg (by omega),h]
  ·by_cases l:i/64<j
   ·rw[if_pos (by omega),if_pos l]
   ·rw[if_neg (by omega),if_neg l]
end
theorem eQ{w:World}{s t:AA}{S T:Nat}(h:AK w s S)(ht:AK w t T)(hn:t.n=s.n):Calls Tryz.prog 157 #[s.v,t.v] w fun e w'=>e=.returned (.bool (C4 S T (nW s.n) != S))/\AK w' s (C4 S T (nW s.n))/\Aj s.X w w':=by
 have HR:=Hd (Mn h);have HW:=Hd (ZD ht);rw[hn]at HW;have HH:=Hd h;have a1:=ht.fit;rw[hn]at a1;have al:=h.words.lt;have ar:=h.small;have ao:1<=nW s.n:=by unfold nW;omega
 have an:nW s.n<=64:=by unfold nW;omega
 have a7:∀k,k<nW s.n->(CK s.n T).toList[k]?=some (.int .u64 (AY T k:Nat)):=fun k o=>by have:=On s.n T k o;simpa using this
 have ak:(CK s.n T).toList.length=nW s.n:=by unfold CK;simp
 generalize (CK s.n T).toList=xs at *;have HG:=Hd a7;have aa:Hid (∀(y:World) (X:Nat),AK y s X->y.cell? ⟨s.h,1,none⟩=some (.slice (some ⟨s.wb,0,none⟩) (nW s.n) (nW s.n))/\∀k,k<nW s.n->y.cell? ⟨s.wb,k,none⟩=some (.int .u64 (AY X k:Nat))/\y.frozen? ⟨s.wb,k,none⟩=false):=Hd (fun y X J=>⟨J.cells.2,fun k o=>⟨J.word o,J.words.frozen k⟩⟩);have ad:Hid (∀(y:World) (X p k:Nat),AK y s X->k<nW s.n->p<2 ^ s.n->(∀j,j≠k->AY p j=AY X j)->∀u:Int,u=(AY p k:Nat)->AK (y.setCell ⟨s.wb,k,none⟩ (.int .u64 u)) s p):=Hd (fun y X p k J o hX h1 u hu=>J.set o hX h1 hu);have HF:Hid (∀j,C4 S T j<2 ^ s.n):=Hd (dS h.fit a1)
 unfold AA.v at *;clear h ht a7 a1;generalize hm:nW s.n=m at *;go_enter Tryz.func157,Tryz.ntmps157
 go_wp2_with (first
  | (go_at_call 137;refine HR.out.mono ?_;rintro e w' ⟨rfl,rfl⟩)
  | (
    go_at_call 201;refine HW.out.mono ?_;rintro e w1 ⟨A,c,rfl,a5,i⟩
    have ab:=Hd a5;have HB:=Hd i;rcases Bv a5 with⟨_,h0⟩|⟨g,c',he,ag,ah,ai,aj,-⟩
    · omega
    cases he
    clear a5 i))
 go_loopw [5,13] (fun ch a6 wr=>∃k:Nat,k<=m/\a6=.int .i64 k/\ch=.bool (C4 S T k != S)/\Hid (AK wr s (C4 S T k))/\Hid (Aj s.X w1 wr)) (fun _ a6 _=>m-(intOf a6).toNat)
 case atStart=>exact⟨0,AP _,rfl,by rw[Rs];simp,Hd (by rw[Rs];exact HH.out.later HB.out),Hd (Aj.refl _ _)⟩
 case round=>
  obtain⟨k,o,rfl,rfl,l,P⟩:=hrel;by_cases a2:k<m
  ·obtain⟨d1,d2⟩:=aa.out wr _ l.out
   obtain⟨d3,d4⟩:=d2 k a2;have C:=aZ (S:=S) (T:=T) (j:=k);have af:wr.cell? ⟨g,k,none⟩=some (.int .u64 (AY T k:Nat)):=by have hr:=P.out.own ab.out (fun b i=>by cases i;show ¬g=s.wb;omega);exact(Bf hr k (by omega)).trans (HG.out k a2)
   have i:=J0 T k;have ha:=J0 S k;have e1:AY (C4 S T k) k=AY S k:=by rw[JQ,if_neg (by omega)]
   have R:AY (C4 S T (k+1)) k=AY S k|||AY T k:=by rw[JQ,if_pos (by omega)]
   rw[e1]at d3;have hand:=u64_andNot_nat _ _ i ha;have ae:=u64_or_nat _ _ ha i;have U:=fN i ha;clear d2;by_cases I:AY T k &&& (18446744073709551615-AY S k)=0
   · have a3:=C.2 (U.1 I)
     rw[I]at hand;have a0:Hid (AK wr s (C4 S T (k+1))):=Hd (by rw[a3];exact l.out);have a4:(C4 S T (k+1) != S)=(C4 S T k != S):=by rw[a3]
     generalize (C4 S T k != S)=ch at *;clear l a3 U C I e1 R ae;generalize AY T k=b at *;generalize AY S k=a at *;go_wp2_with fail
     go_roundw
     case rel=>exact⟨k+1,by omega,by go_num,by rw[a4],a0,P⟩
     case measure=>simp[intOf];omega
   · have a9:¬C4 S T (k+1)=C4 S T k:=fun e=>I (U.2 (C.1 e))
     have a4:(C4 S T (k+1) != S)=true:=by rw[bne_iff_ne];intro e;have e3:=congrArg (fun x=>AY x k) e;simp only[R]at e3;exact a9 (C.2 e3)
     have a0:Hid (AK (wr.setCell ⟨s.wb,k,none⟩ (.int .u64 ((AY S k|||AY T k:Nat):Int))) s (C4 S T (k+1))):=Hd (ad.out wr _ _ k l.out a2 (HF.out _) (fun j hj=>by
       rw[JQ,JQ];by_cases a8:j<k
       ·rw[if_pos (by omega),if_pos a8]
       ·rw[if_neg (by omega),if_neg a8]) _ (by rw[R]))
     have aq:(((AY T k &&& (18446744073709551615-AY S k):Nat):Int) != 0)=true:=by rw[bne_iff_ne];omega
     generalize (C4 S T k != S)=ch at *;clear l U C I e1 R a9;generalize AY T k &&& (18446744073709551615-AY S k)=z at *;generalize AY S k|||AY T k=au at *;generalize AY T k=b at *;generalize AY S k=a at *;go_wp2_with fail
     go_roundw
     case rel=>exact⟨k+1,by omega,by go_num,by rw[a4],a0,Hd (P.out.set (p:=⟨s.wb,k,none⟩) (.inr rfl) _)⟩
     case measure=>simp[intOf];omega
  ·obtain rfl:k=m:=by omega
   go_wp2_with fail
   go_ret;exact⟨rfl,l.out,((Aj.AH HB.out).next P.out)⟩
theorem or_nil{w:World}{s:AA}{S:Nat}(h:AK w s S):Calls Tryz.prog 157 #[s.v,.pointer none] w fun e w'=>e=.returned (.bool false)/\w'=w:=by
 have j:=Hd (Mn h);have l:=Hd (ZR w s.n);unfold AA.v at *;clear h;go_enter Tryz.func157,Tryz.ntmps157
 go_wp2_with (first
  | (go_at_call 137;refine j.out.mono ?_;rintro e w' ⟨rfl,rfl⟩)
  | (go_at_call 201;refine l.out.mono ?_;rintro e p ⟨rfl,rfl⟩))
 go_loopw [5,13] (fun o i wr=>i=.int .i64 0/\o=.bool false/\wr=p) (fun _ i _=>0)
 case atStart=>exact⟨rfl,rfl,rfl⟩
 case round=>
  obtain⟨rfl,rfl,rfl⟩:=hrel;go_wp2_with fail
  go_ret;exact⟨rfl,rfl⟩
def EK(n S i:Nat):Int:=match KT n S i with|some k=>(k:Int)|none => -1
theorem OH{n S i k:Nat}(p:k<n)(l:S.testBit k=true)(o:i<=k)(h:∀j,i<=j->j<k->S.testBit j=false):EK n S i=k:=by unfold EK;rw[gV p l o h]
theorem Lw{n S i:Nat}(h:∀j,i<=j->j<n->S.testBit j=false):EK n S i = -1:=by unfold EK;rw[bT h]
theorem Vp(i:Nat)(t:i<9223372036854775000):bits .or .i64 (i:Int) 63=((i/64*64+63:Nat):Int):=by
 show IntKind.i64.wrap ((BitVec.ofInt 64 (i:Int)|||BitVec.ofInt 64 ((63:Nat):Int)).toNat:Int)=_;have e:i|||63=i/64*64+63:=by
  apply Nat.eq_of_testBit_eq;intro j;have o:=Nat.testBit_two_pow_sub_one 6 j;rw[show 2 ^ 6-1=63 by rfl]at o;have p:i/64*64+63=2 ^ 6*(i/64)+63:=by omega
  rw[Nat.testBit_or,o,p,Nat.testBit_two_pow_mul_add _ (by decide),o];by_cases l:j<6
  ·rw[if_pos l,decide_eq_true l,Bool.or_true]
  ·rw[if_neg l,decide_eq_false l,Bool.or_false,show (64:Nat)=2 ^ 6 by rfl,Nat.testBit_div_two_pow,show j-6+6=j by omega]
 rw[BitVec.toNat_or,ofInt_u64 i (by omega),ofInt_u64 63 (by omega),e,IntKind.wrap_i64];omega
theorem Yq{S i:Nat}(h:AY S (i/64)/2 ^ (i%64)=0):∀j,i<=j->j<i/64*64+64->S.testBit j=false:=by intro j l o;have e:=S5 S i (j-i);rw[h,Nat.zero_testBit,decide_eq_true (by omega:j-i+i%64<64),Bool.true_and,show i+(j-i)=j by omega]at e;exact e.symm
theorem N5{w:World}{s:AA}{S i0:Nat}(h:AK w s S)(hi:i0<=5000):Calls Tryz.prog 155 #[s.v,.int .i64 i0] w fun e w'=>e=.returned (.int .i64 (EK s.n S i0))/\w'=w:=by
 have U:=Hd (Mn h);have HH:=Hd h;obtain⟨-,c1⟩:=h.cells;have ak:=h.small;unfold AA.v at *;clear h;go_enter Tryz.func155,Tryz.ntmps155
 go_wp2_with fail
 go_loopw [5] (fun i wr=>∃k:Nat,k<=9000/\i=.int .i64 k/\wr=w/\Hid (i0<=k/\∀j,i0<=j->j<k->S.testBit j=false)) (fun i _=>9000-(intOf i).toNat)
 case atStart=>exact⟨i0,by omega,rfl,rfl,Hd ⟨AG _,fun j o P=>by omega⟩⟩
 case round=>
  obtain⟨k,hk,rfl,rfl,I⟩:=hrel;by_cases aj:k<s.n
  ·have c2:=HH.out.word (k:=k/64) (by unfold nW;omega)
   have af:((k/64:Nat):Int)=(k:Int)/64:=by omega
   have ab:=MY k (by omega);have ag:k/64<nW s.n:=by unfold nW;omega
   have ad:=Vp k (by omega);have ae:((AY S (k/64):Nat):Int)/2 ^ (k%64)=((AY S (k/64)/2 ^ (k%64):Nat):Int):=by norm_cast
   have a2:AY S (k/64)/2 ^ (k%64)<18446744073709551616:=Nat.lt_of_le_of_lt (Nat.div_le_self _ _) (J0 _ _);have a3:=S5 S k;have a4:AY S (k/64)/2 ^ (k%64)=0->_:=Yq;have HZ:=Hd a4;have HT:=Hd a3;clear a4 a3;generalize a1:AY S (k/64)/2 ^ (k%64)=R at *;by_cases T:R=0
   ·have HB:Hid (i0<=k/64*64+64/\∀j,i0<=j->j<k/64*64+64->S.testBit j=false):=Hd ⟨by have:=I.out.1;omega,fun j o P=>by
     by_cases C:j<k
     ·exact I.out.2 j o C
     ·exact HZ.out T j (by omega) P⟩
    have ai:((R:Int)==0)=true:=by rw[T];rfl
    clear a1 T HZ HT;go_wp2_with (go_at_call 137;refine U.out.mono ?_;rintro e w' ⟨rfl,rfl⟩)
    go_roundw
    case rel=>exact⟨k/64*64+64,by omega,by go_num,trivial,HB⟩
    case measure=>simp[intOf];omega
   ·have ai:((R:Int)==0)=false:=by rw[bN];omega
    have aa:=Hd T;clear a1 T HZ;go_wp2_with (go_at_call 137;refine U.out.mono ?_;rintro e w' ⟨rfl,rfl⟩)
    rename World=>wz
    clear ab ad af ag c2 U;go_loopw [5,6] (fun i r wr=>∃t x:Nat,t<=63/\i=.int .i64 ((k:Int)+t)/\r=.int .u64 x/\wr=wz/\¬(x=0)/\Hid (x=R/2 ^ t/\∀j,j<t->R.testBit j=false)) (fun i _ _=>k+64-(intOf i).toNat)
    case atStart=>exact⟨0,R,by omega,by simp,by rw[ae],rfl,aa.out,Hd ⟨by simp,fun j C=>absurd C (Nat.not_lt_zero _)⟩⟩
    case round=>
     obtain⟨t,x,ht,rfl,rfl,rfl,an,l⟩:=hrel;have a7:x<18446744073709551616:=by rw[l.out.1];exact Nat.lt_of_le_of_lt (Nat.div_le_self _ _) a2
     have hand:bits .and .u64 (x:Int) 1=((x%2:Nat):Int):=by rw[<-nat_mask1];exact u64_and_nat x 1 a7 (by decide)
     have a6:R.testBit t=decide (x%2=1):=by rw[l.out.1,Nat.testBit_eq_decide_div_mod_eq]
     have J:=Hd a6;clear a6;by_cases hq:x%2=0
     ·rw[hq,Int.natCast_zero]at hand
      have al:t+1<=63:=by
       by_cases p:t+1<=63
       ·exact p
       ·exfalso
        have o:t=63:=by omega
        have P:x<2:=by rw[l.out.1,o];exact Nat.div_lt_of_lt_mul (by omega)
        omega
      have a9:Hid (x/2=R/2 ^ (t+1)/\∀j,j<t+1->R.testBit j=false):=Hd ⟨by rw[l.out.1,Nat.div_div_eq_div_mul,Nat.pow_succ],fun j C=>by
       by_cases he:j=t
       ·rw[he,J.out,hq];rfl
       ·exact l.out.2 j (by omega)⟩
      have ah:¬x/2=0:=by omega
      clear l J a7 a2;go_wp2_with fail
      go_roundw
      case rel=>exact⟨t+1,x/2,by omega,by go_num,by go_num,trivial,ah,a9⟩
      case measure=>simp[intOf];omega
     ·have a0:x%2=1:=by omega
      rw[a0,Int.natCast_one]at hand;have a8:Hid (EK s.n S i0=((k+t:Nat):Int)):=Hd (by
       have hT:=HT.out t;rw[J.out,decide_eq_true a0]at hT;have hS:S.testBit (k+t)=true:=by
        cases p:S.testBit (k+t)
        ·rw[p,Bool.and_false]at hT;cases hT
        ·rfl
       refine OH ?_ hS (by have:=I.out.1;omega) ?_
       ·by_cases p:k+t<s.n
        ·exact p
        ·rw[NA HH.out.fit (by omega)]at hS;cases hS
       ·intro j o P
        by_cases C:j<k
        ·exact I.out.2 j o C
        ·have h3:=HT.out (j-k)
         rw[l.out.2 (j-k) (by omega),decide_eq_true (by
          by_cases p:j-k+k%64<64
          ·exact p
          ·exfalso
           have a5:=HT.out t;rw[J.out,decide_eq_true a0,decide_eq_false (by omega),Bool.false_and]at a5;cases a5),Bool.true_and,show k+(j-k)=j by omega]at h3
         exact h3.symm)
      clear l J;go_wp2_with fail
      go_ret;exact⟨by rw[a8.out];rfl,rfl⟩
  ·have HN:=Hd (Lw (n:=s.n) (S:=S) (i:=i0) (fun j o P=>I.out.2 j o (by omega)))
   go_wp2_with (go_at_call 137;refine U.out.mono ?_;rintro e w' ⟨rfl,rfl⟩)
   go_ret;exact⟨by rw[HN.out];rfl,rfl⟩
theorem Cv{w:World}{B:Nat}{e:TypeId}{size n:Nat}{v:Value}{xs:List Value}(h:w.ownsRow B e size v n xs):∃A c,v=.slice A n c:=by
 rcases Bv h with⟨rfl,rfl⟩|⟨b,c,rfl,_⟩
 ·exact⟨none,0,rfl⟩
 ·exact⟨_,c,rfl⟩
section
variable {P:Program} {ops:Array Oper} {Q:Exit->Act->World->Prop} {md:Region.Mode} {S:World->Prop} {z:Nat}
def FL(P:Program)(md:Region.Mode)(ops:Array Oper)(Q:Exit->Act->World->Prop)(S:World->Prop)(z:Nat):Nat->Array Bool->Act->World->Prop
 | 0,listed,a,w=>Region.ready md ops listed=[]/\Q .normal a w
 | f+1,listed,a,w=>(Region.ready md ops listed=[]->Q .normal a w)/\∀i∈Region.ready md ops listed,wpOp P ops Q i (fun l j=>(i≠z->S j)/\FL P md ops Q S z f (listed.setIfInBounds i true) l j) a w
theorem SO:∀(f:Nat) (listed:Array Bool) (a:Act) (w:World),FL P md ops Q S z f listed a w->wpAny P md ops Q f listed a w
 | 0,_,_,_,h=>h
 | f+1,_,_,_,h=>⟨h.1,fun i o=>wpOp_mono (fun j p l=>SO f _ j p l.2) (h.2 i o)⟩
theorem Fb{id:Nat}{a:Act}{w:World}(z:Nat)(S:World->Prop)(i:P.follows .mixedOrders=true)(h:FL P .any ops Q S z ops.size (Array.replicate ops.size false) a w.drew):(Code.region id ops true).wp P Q a w:=
 wp_region_any i (SO _ _ _ _ h)
theorem gQ{i:Nat}{J:Oper}{v:Value}(hi:ops[i]?=some J)(a7:∀(j:Nat) (o:Oper) cs b,ops[j]?=some o->o.op ≠ .select cs b)(hQ:∀c a w,Q (.panic c) (a.put J.dst v) w->Q (.panic c) a w)(hz:Region.waitsFor md ops z i=true) :
  ∀(f:Nat) (listed:Array Bool) (a:Act) (w:World),(∀j l,ops[j]?=some l->j≠i->listed.getD j true=false->(∀e∈l.after,Region.binds md e=true->e.on≠i)->J.apart ops l=true) ->
   i∈Region.ready md ops listed->YieldsIf P ops S J v a->S w->FL P md ops Q S z f (listed.setIfInBounds i true) (a.put J.dst v) w->FL P md ops Q S z (f+1) listed a w:=by
 obtain⟨oz,a6,ez,aa,a9,af⟩:=Region.waitsFor_spec hz;have ag:∀(listed:Array Bool) (j:Nat) (l:Oper),i∈Region.ready md ops listed->ops[j]?=some l->j∈Region.ready md ops listed->∀e∈l.after,Region.binds md e=true->e.on≠i:=fun listed j l p I C e he hb heq=>by
  obtain⟨_,ah,a5,a8⟩:=mem_ready.1 C;rw[I]at a5;cases a5
  have T:=a8 e he hb;rw[heq,getD_both (mem_ready.1 p).1]at T;cases T
 intro f;induction f with
 | zero=>
  intro listed a w _ p hy R H;refine⟨fun h=>(by rw[h]at p;cases p),fun j C=>?_⟩;by_cases t:j=i
  ·subst t;exact hy.wpOp hi R ⟨fun _=>R,H⟩
  ·have U:=ready_mono C t
   rw[H.1]at U;cases U
 | succ f ih=>
  intro listed a w a0 p hy R H;refine⟨fun h=>(by rw[h]at p;cases p),fun j C=>?_⟩;by_cases t:j=i
  ·subst t;exact hy.wpOp hi R ⟨fun _=>R,H⟩
  ·have T:=H.2 j (ready_mono C t)
   obtain⟨a2,l,I,_⟩:=mem_ready.1 C;have a4:=ag listed j l p I C;have ab:j≠z:=fun e=>by
    subst e;rw[I]at a6;cases a6
    exact a4 ez aa a9 af
   have U:=wpOp_putIf I (a0 j l I t a2 a4) (fun cs b=>a7 i J cs b hi) (fun cs b=>a7 j l cs b I) hQ hy T;refine wpOp_mono (fun a' w' h3=>⟨h3.2.1,ih (listed.setIfInBounds j true) a' w' (fun k ok hk ad a3 ae=>a0 k ok hk ad ?_ ae) (ready_mono p (Ne.symm t)) h3.1 (h3.2.1 ab) ?_⟩) U
   ·by_cases a1:j=k
    ·subst a1;exact a2
    ·rw[getD_set_ne true a1]at a3;exact a3
   ·rw[Array.setIfInBounds_comm _ _ t]
    exact h3.2.2
theorem JZ(i:Nat){j:Oper}{v:Value}{d f:Nat}{listed:Array Bool}{l:List Value}{o:List Deferred}{w:World}(p:ops[i]?=some j)(T:Region.noSelect ops=true)(J:Region.free md ops listed i=true)(R:(Region.ready md ops listed).contains i=true)(hz:Region.waitsFor md ops z i=true)
  (t:∀c a w,Q (.panic c) (a.put j.dst v) w->Q (.panic c) a w) (U:YieldsIf P ops S j v {tmps:=l.toArray,defers:=o}) (C:S w) (I:j.dst=some d)
  (h:FL P md ops Q S z f (listed.setIfInBounds i true) {tmps:=(l.set d v).toArray,defers:=o} w):FL P md ops Q S z (f+1) listed {tmps:=l.toArray,defers:=o} w:=by
 refine gQ p (Region.noSelect_spec T) t hz f listed _ w (Region.free_spec p J) (by simpa using R) U C ?_;rw[I];simpa [Act.put] using h
theorem AE(i:Nat){j:Oper}{v:Value}{d f:Nat}{listed:Array Bool}{l:List Value}{o:List Deferred}{w:World}(t:S w)(h:FL P md ops Q S z f (listed.setIfInBounds i true) {tmps:=(l.set d v).toArray,defers:=o} w)
  (R:ops[i]?=some j:=by rfl) (U:Region.noSelect ops=true:=by kernel_rfl) (J:Region.free md ops listed i=true:=by kernel_rfl) (T:(Region.ready md ops listed).contains i=true:=by kernel_rfl) (hz:Region.waitsFor md ops z i=true:=by kernel_rfl)
  (p:∀c a w,Q (.panic c) (a.put j.dst v) w->Q (.panic c) a w:=by exact fun _ _ _ h=>h) (hy:YieldsIf P ops S j v {tmps:=l.toArray,defers:=o}:=by(refine Or.inl ⟨by rfl,?_⟩;intro w C;(try dsimp only at C);go_simp;try with_reducible rfl)) (I:j.dst=some d:=by rfl):FL P md ops Q S z (f+1) listed {tmps:=l.toArray,defers:=o} w:=
 JZ i R U J T hz p hy t I h
theorem AD{i:Type}{x:i}{xs:List i}{n:Nat}{y:i}:(x::xs).set (n+1) y=x::xs.set n y:=rfl
theorem AF{i:Type}{x:i}{xs:List i}{y:i}:(x::xs).set 0 y=y::xs:=rfl
theorem BN(i:Nat){o:Oper}{f:Nat}{listed:Array Bool}{a:Act}{w:World}(p:Region.ready md ops listed=[i])(J:ops[i]?=some o)(I:o.guard=none)
  (h:∀K:Act->World->Prop,Shut (∀a w,(i≠z->S w)->FL P md ops Q S z f (listed.setIfInBounds i true) a w->K a w)->o.wp P a w K Q):FL P md ops Q S z (f+1) listed a w:=by
 refine⟨fun h0=>(by rw[p]at h0;cases h0),fun j l=>?_⟩;rw[p,mS]at l;subst l;unfold wpOp;rw[J];simp only;rw[if_pos (by unfold Region.wanted;rw[I])];exact .inl (h _ fun a w t C=>⟨t,C⟩)
theorem JH(i:Nat){o:Oper}{f d:Nat}{listed:Array Bool}{l:List Value}{j:List Deferred}{w:World}(T:Region.ready md ops listed=[i])(R:ops[i]?=some o)(J:o.guard=none)(I:o.dst=some d)
  (h:∀K:Act->World->Prop,Shut (∀v w,(i≠z->S w)->FL P md ops Q S z f (listed.setIfInBounds i true) {tmps:=(l.set d v).toArray,defers:=j} w->K (({tmps:=l.toArray,defers:=j}:Act).put o.dst v) w)->o.wp P {tmps:=l.toArray,defers:=j} w K Q):FL P md ops Q S z (f+1) listed {tmps:=l.toArray,defers:=j} w:=by
 refine BN i T R J fun K C=>h K fun v w p t=>?_
 refine C _ _ p ?_;rw[I];simpa [Act.put] using t
theorem EW{listed:Array Bool}{a:Act}{w:World}(i:Region.ready md ops listed=[])(h:Q .normal a w):∀f,FL P md ops Q S z f listed a w
 | 0=>⟨i,h⟩
 | _+1=>⟨fun _=>h,by rw[i];simp⟩
end
structure Wd(I:World->Prop) where
 w:World
 ok:I w
theorem Fh{P:Program}{f:FuncId}{args:Array Value}{I:World->Prop}{w:World}{v:Value}(h:Calls P f args w fun e w'=>e=.returned v/\I w') :
 Calls P f args w fun e w'=>e=.returned v/\∃y:Wd I,w'=y.w:=h.mono fun _ _ ⟨i,j⟩=>⟨i,⟨_,j⟩,rfl⟩
theorem Iy(I:World->Prop){P:Program}{id:Nat}{Q:Exit->Act->World->Prop}{a:Act}{w:World}{l:List Oper}(o:P.follows .mixedOrders=true)(j:Region.lexB .any l.toArray=true)
  (h0:I w.drew) (h:wpQuiet P l.toArray (fun w'=>∃y:Wd I,w'=y.w) (fun i=>∀w',(∃y:Wd I,w'=y.w)->Q .normal i w') l a):(Code.region id l.toArray true).wp P Q a w:=
 wp_region_quiet (C:=fun w'=>∃y:Wd I,w'=y.w) o j ⟨⟨w.drew,h0⟩,rfl⟩ (by simpa using h)
namespace Aj
variable {X Y:Nat->Prop} {a b c:World}
theorem put(h:Aj X a b){r:Nat}(i:a.heap.size<=r\/X r)(o:Obj):Aj X a (b.putObj r o):=
 ⟨h.os,h.tape,h.output,by simpa using h.size,fun k l j=>(World.putObj_heap_other (by rintro rfl;rcases i with i|i;omega;exact j i)).trans (h.block k l j)⟩
end Aj
def BQ(A:Nat->Prop)(w w':World):Prop:=∀b,A b->w'.heap[b]?=w.heap[b]?
theorem BQ.refl(A:Nat->Prop)(w:World):BQ A w w:=fun _ _=>rfl
theorem BQ.trans{A:Nat->Prop}{a b c:World}(h:BQ A a b)(k:BQ A b c):BQ A a c:=fun i j=>(k i j).trans (h i j)
def I8{l:Type}(B:Nat)(J:l->(Nat->Prop)->World->Prop):Prop:=
 ∀s A i W j,J s A W->Aj (fun b=>B<=b/\A b) W j->(∀b,i b->A b\/W.heap.size<=b)->J s i j
def Seq{t:Type}(P:Program)(gf:Nat)(lb:Array Value)(C:t->Array Value)(xs:List t)(o:Nat->Prop)(w:World):Prop:=
 ∀(l:Nat) (J:List t->(Nat->Prop)->World->Prop) (p:Unit->(Nat->Prop)->World->Prop) (W:World),Aj (fun _=>False) w W->I8 W.heap.size J->I8 W.heap.size p ->
  (∀pre x A j,J pre A j->pre++[x] <+: xs->(∀b,o b->A b)->(∀b,A b->b<j.heap.size)->YieldAt Fence.wide 0 P l (C x) j fun e i=>j.heap.size<=i.heap.size/\BQ A j i/\((e=.returned (.bool true)/\J (pre++[x]) A i)\/(e=.returned (.bool false)/\p () A i))) ->
  J [] o W ->
  CallsIn Fence.wide 0 P gf (#[.func (.yield l) #[] #[]]++lb) W fun e i=>(∃v,e=.returned v)/\∃A:Nat->Prop,(∀b,o b->A b)/\(∀b,A b->b<i.heap.size)/\(J xs A i\/p () A i)
def aY{l:Type}(I:List l->(Nat->Prop)->World->Prop)(j:Code->(Nat->Prop)->World->Prop)(xs:List l)(A:Nat->Prop)(W:World):Exit->Act->World->Prop
 | .normal,_,i=>W.heap.size<=i.heap.size/\BQ A W i/\I xs A i
 | .ret,_,i=>W.heap.size<=i.heap.size/\BQ A W i/\j .ret A i
 | .exit id,_,i=>W.heap.size<=i.heap.size/\BQ A W i/\j (.exit id) A i
 | .goto t,_,i=>W.heap.size<=i.heap.size/\BQ A W i/\j (.goto t) A i
 | .panic _,_,_=>False
 | .outgrown,_,_=>False
theorem I8.step{j:Type}{B:Nat}{J:j->(Nat->Prop)->World->Prop}(h:I8 B J){s:j}{A:Nat->Prop}{W i:World}(o:J s A W)(l:Aj (fun b=>B<=b/\A b) W i):J s A i:=h s A A W i o l (fun _=>.inl)
def QA{j:Type}(P:Program)(T:j->Array Value)(U:Array Tmp)(assign R:Code)(tmps:Array Value)(xs:List j)(t:Nat->Prop)(B:Nat)(I:List j->(Nat->Prop)->World->Prop)(C:Code->(Nat->Prop)->World->Prop):Prop:=
 ∀(l:Nat) (pre:List j) (x:j) (A:Nat->Prop) (W:World),pre++[x] <+: xs->B<=l->l<W.heap.size->A l->(∀b,t b->A b)->(∀b,A b->b<W.heap.size)->I pre A W ->
  assign.wpIn (Fence.wide.inRound l) 0 P (Exit.then (fun J o=>W.heap.size<=o.heap.size/\BQ A W o/\∀i,Aj (·=l) o i->o.heap.size=i.heap.size->(∃r,i.heap[l]?=some (.loop r)) ->
   R.wpIn (Fence.wide.inRound l) 0 P (aY I C (pre++[x]) A i) J i) (fun _ _ _=>False))
   {tmps:=(U.zip (T x)).foldl (fun a0 (p,v)=>a0.setIfInBounds p v) tmps,defers:=[]} W
section
variable {P:Program}
theorem rounds{α:Type}{a2:α->Array Value}{ps:Array Tmp}{assign body:Code}{tmps:Array Value}{xs:List α}{A₀:Nat->Prop}{B:Nat}{I:List α->(Nat->Prop)->World->Prop}{Ix:Code->(Nat->Prop)->World->Prop}
  (hI:I8 B I) (hIx:∀c,I8 B (fun(_:Unit)=>Ix c)) (hr:QA P a2 ps assign body tmps xs A₀ B I Ix) (aj:∀x,(a2 x).size=ps.size) {fn:FuncId} {D l:Nat} (hl:B<=l) {X:Nat->Prop} (hX:X l)
  (j:LoopState->Option Code->Loop) (a6:j=fun st pe=>{state:=st,pending:=pe,fn,tmps,params:=ps,assign,body,defers:=D})
  {pre:List α} {x:α} {A:Nat->Prop} {W:World} (hi:I pre (fun b=>A b\/X b) W) (a7:W.heap[l]?=some (.loop (j .ready none))) (hA:¬A l) (hp:pre++[x] <+: xs) (ak:∀b,A₀ b->A b) (ag:∀b,A b->b<W.heap.size) (ah:∀b,X b->b<W.heap.size) :
  YieldAt Fence.wide 0 P l (a2 x) W fun e R=>W.heap.size<=R.heap.size/\BQ A W R/\(∀b,X b->b≠l->R.heap[b]?=W.heap[b]?) /\
   (
    (e=.returned (.bool true)/\I (pre++[x]) (fun b=>A b\/X b) R/\R.heap[l]?=some (.loop (j .ready none))) \/
    (e=.returned (.bool false)/\∃c,Ix c (fun b=>A b\/X b) R/\R.heap[l]?=some (.loop (j .done (some c))))):=by
 have af:l<W.heap.size:=(aG.1 a7).1;have hy:=run_yield (P:=P) (args:=a2 x) a7 (by rw[a6];exact aj x);rw[a6]at hy;refine⟨fn,_,assign,body,hy,roundIn_of_wpIn trivial (wpIn_mono (hr l pre x _ W hp hl af (.inr hX) (fun b p=>.inl (ak b p)) (fun b p=>p.elim (ag b) (ah b)) hi) ?_)⟩;intro e a' J h;cases e with
 | normal=>
  obtain⟨al,ad,p⟩:=h;have ab:J.heap[l]?=some (.loop (j .ready none)):=(ad l (.inr hX)).trans a7;have ai:l<J.heap.size:=(aG.1 ab).1;refine⟨_,run_beginRound ab (by rw[a6]),?_⟩;have a9:(J.putObj l (.loop {j .ready none with state:=.busy})).heap[l]?=some (.loop {j .ready none with state:=.busy}):=World.putObj_heap_same ai;have ae:Aj (·=l) J (J.putObj l (.loop {j .ready none with state:=.busy})):=(Aj.refl (·=l) J).put (r:=l) (.inr rfl) _;refine wpIn_mono (p _ ae (by simp) ⟨_,a9⟩) ?_;have a4:∀(i:Option Code) (o:World),(J.putObj l (.loop {j .ready none with state:=.busy})).heap.size<=o.heap.size->BQ (fun b=>A b\/X b) (J.putObj l (.loop {j .ready none with state:=.busy})) o ->
     (Instr.endRound l i).run P o=.ok (.bool i.isNone) (o.putObj l (.loop (j (if i.isNone then .ready else .done) i))) /\
     W.heap.size<=(o.putObj l (.loop (j (if i.isNone then .ready else .done) i))).heap.size /\
     BQ A W (o.putObj l (.loop (j (if i.isNone then .ready else .done) i))) /\
     (∀b,X b->b≠l->(o.putObj l (.loop (j (if i.isNone then .ready else .done) i))).heap[b]?=W.heap[b]?) /\
     (o.putObj l (.loop (j (if i.isNone then .ready else .done) i))).heap[l]?=some (.loop (j (if i.isNone then .ready else .done) i)) /\
     Aj (fun b=>B<=b/\(A b\/X b)) o (o.putObj l (.loop (j (if i.isNone then .ready else .done) i))):=fun i o C t=>by
   have aa:o.heap[l]?=some (.loop {j .ready none with state:=.busy}):=(t l (.inr hX)).trans a9;have h1:=run_endRound (P:=P) i aa;have hx:∀b,(A b\/X b)->b≠l->(o.putObj l (.loop (j (if i.isNone then .ready else .done) i))).heap[b]?=W.heap[b]?:=fun b p a5=>(World.putObj_heap_other a5).trans ((t b p).trans ((World.putObj_heap_other a5).trans (ad b p)))
   refine⟨?_,?_,fun b p=>hx b (.inl p) (fun e=>hA (e▸p)),fun b p a5=>hx b (.inr p) a5,World.putObj_heap_same (aG.1 aa).1,(Aj.refl _ _).put (.inr ⟨hl,.inr hX⟩) _⟩
   · rw[a6]at h1 ⊢;exact h1
   · rw[World.putObj_size]at C ⊢;omega
  intro e a3 o a1;cases e with
  | normal=>obtain⟨C,t,a0⟩:=a1;obtain⟨T,U,f3,f4,f5,f6⟩:=a4 none o C t;exact⟨_,_,T,U,f3,f4,.inl ⟨rfl,hI.step a0 f6,f5⟩⟩
  | ret=>obtain⟨C,t,a0⟩:=a1;obtain⟨T,U,f3,f4,f5,f6⟩:=a4 (some .ret) o C t;exact⟨_,_,T,U,f3,f4,.inr ⟨rfl,.ret,(hIx _).step (s:=()) a0 f6,f5⟩⟩
  | exit id=>obtain⟨C,t,a0⟩:=a1;obtain⟨T,U,f3,f4,f5,f6⟩:=a4 (some (.exit id)) o C t;exact⟨_,_,T,U,f3,f4,.inr ⟨rfl,.exit id,(hIx _).step (s:=()) a0 f6,f5⟩⟩
  | goto a8=>obtain⟨C,t,a0⟩:=a1;obtain⟨T,U,f3,f4,f5,f6⟩:=a4 (some (.goto a8)) o C t;exact⟨_,_,T,U,f3,f4,.inr ⟨rfl,.goto a8,(hIx _).step (s:=()) a0 f6,f5⟩⟩
  | panic ch=>exact a1.elim
  | outgrown=>exact a1.elim
 | ret=>exact h.elim
 | exit id=>exact h.elim
 | goto a8=>exact h.elim
 | panic ch=>exact h.elim
 | outgrown=>exact h.elim
theorem SH{α:Type}{g:Operand}{ps:Array Tmp}{assign body:Code}{Q:Exit->Act->World->Prop}{a:Act}{w:World}{gf:Nat}{lb:Array Value}(hg:a.eval g=.func (.func gf) #[] lb)
  (eg:∀args w,(callFunc gf args).run P w=.ok (.enter gf args) w) {a4:α->Array Value} {xs:List α} {R:Nat->Prop} (ag:Seq P gf lb a4 xs R w) (a5:∀b,R b->b<w.heap.size) (af:∀x,(a4 x).size=ps.size)
  (I:List α->(Nat->Prop)->World->Prop) (Ix:Code->(Nat->Prop)->World->Prop) (hI:I8 w.heap.size I) (hIx:∀c,I8 w.heap.size (fun(_:Unit)=>Ix c)) (h0:I [] R w)
  (hround:QA P a4 ps assign body a.tmps xs R w.heap.size I Ix)
  (hdone:∀(D:Nat) (A:Nat->Prop) (W:World),w.heap.size<=D->A D->(∀b,R b->A b)->(∀b,A b->b<W.heap.size)->I xs A W->W.heap[D]?=some (.deferred (some []))->Q .normal {a with defers:={target:=.collected D,args:=#[]}::a.defers} W)
  (hstop:∀(D:Nat) (c:Code) (A:Nat->Prop) (W:World),w.heap.size<=D->A D->(∀b,R b->A b)->(∀b,A b->b<W.heap.size)->Ix c A W->W.heap[D]?=some (.deferred (some []))->c.wpIn Fence.wide 0 P Q {a with defers:={target:=.collected D,args:=#[]}::a.defers} W) :
  (Code.rangeFunc g ps assign body).wpIn Fence.wide 0 P Q a w:=by
 refine wpIn_rangeFunc ?_;intro fn al;rw[show Fence.wide.round=none from rfl];obtain⟨J,a0⟩:∃J:LoopState->Option Code->Loop,J=fun st pe=>{state:=st,pending:=pe,fn,tmps:=a.tmps,params:=ps,assign,body,defers:=w.heap.size}:=⟨_,rfl⟩
 obtain⟨o,a1⟩:∃o,(w.alloc (.deferred (some []))).alloc (.loop (J .ready none))=o:=⟨_,rfl⟩
 have ad:o.heap[w.heap.size+1]?=some (.loop (J .ready none)):=by rw[<-a1];have:=World.alloc_heap_new (w.alloc (.deferred (some []))) (.loop (J .ready none));rwa [World.size_alloc]at this
 have ab:o.heap[w.heap.size]?=some (.deferred (some [])):=by rw[<-a1];exact(Below.heap_alloc _ _ _ (by simp)).trans (World.alloc_heap_new w _)
 have a6:∀X,Aj X w o:=fun X=>by rw[<-a1];exact((Aj.refl X w).alloc _).alloc _
 have an:o.heap.size=w.heap.size+2:=by rw[<-a1];simp
 refine⟨w.heap.size+1,[{target:=.collected w.heap.size,args:=#[]}],o,{target:=.fn (.func gf) lb,args:=#[.func (.yield (w.heap.size+1)) #[] #[]]},o,gf,
  #[.func (.yield (w.heap.size+1)) #[] #[]]++lb,o,?_,?_,?_,?_,(fun h=>(by cases h)),?_⟩
 ·rw[<-a1,a0];exact run_enterLoop_outer _ _ _ _ _
 ·simp only[resolve,hg]
  simp[go_sem]
 ·intro f' ak;trivial
 ·simp[invoke,go_sem,eg]
 ·have hX:∀b,(b=w.heap.size\/b=w.heap.size+1)->w.heap.size<=b/\b<o.heap.size:=fun b i=>by omega
  refine(ag (w.heap.size+1)
   (fun pre A W=>I pre (fun b=>A b\/(b=w.heap.size\/b=w.heap.size+1)) W/\W.heap[w.heap.size+1]?=some (.loop (J .ready none))/\W.heap[w.heap.size]?=some (.deferred (some []))/\¬A w.heap.size/\¬A (w.heap.size+1))
   (fun _ A W=>∃c,Ix c (fun b=>A b\/(b=w.heap.size\/b=w.heap.size+1)) W/\W.heap[w.heap.size+1]?=some (.loop (J .done (some c)))/\W.heap[w.heap.size]?=some (.deferred (some []))/\¬A w.heap.size/\¬A (w.heap.size+1))
   o (a6 _) ?_ ?_ ?_ ?_).mono ?_
  ·rintro s A A' a2 U' ⟨C,l,j,t,p⟩ U T
   have u1:=(aG.1 l).1;have u2:=(aG.1 j).1;refine⟨hI s _ _ a2 U' C (U.mono fun ai hi=>⟨by omega,.inl hi.2⟩) (fun b i=>?_),(U.block _ u1 (fun h=>p h.2)).trans l,(U.block _ u2 (fun h=>t h.2)).trans j,fun h=>?_,fun h=>?_⟩
   ·rcases i with i|i
    ·exact(T b i).elim (fun h=>.inl (.inl h)) .inr
    ·exact .inl (.inr i)
   ·exact(T _ h).elim t (by omega)
   ·exact(T _ h).elim p (by omega)
  ·rintro s A A' a2 U' ⟨c,C,l,j,t,p⟩ U T
   have u1:=(aG.1 l).1;have u2:=(aG.1 j).1;refine⟨c,hIx c s _ _ a2 U' C (U.mono fun ai hi=>⟨by omega,.inl hi.2⟩) (fun b i=>?_),(U.block _ u1 (fun h=>p h.2)).trans l,(U.block _ u2 (fun h=>t h.2)).trans j,fun h=>?_,fun h=>?_⟩
   ·rcases i with i|i
    ·exact(T b i).elim (fun h=>.inl (.inl h)) .inr
    ·exact .inl (.inr i)
   ·exact(T _ h).elim t (by omega)
   ·exact(T _ h).elim p (by omega)
  ·rintro pre x A a2 ⟨C,l,j,t,p⟩ ae ah a3
   have u1:=(aG.1 l).1;have u2:=(aG.1 j).1;obtain⟨aa,aj,a8,a9,hy,hR⟩:=rounds (P:=P) (D:=w.heap.size) hI hIx hround af (l:=w.heap.size+1) (by omega) (X:=fun b=>b=w.heap.size\/b=w.heap.size+1) (.inr rfl) J a0 C l p ae ah a3 (fun b i=>by rcases i with rfl|rfl<;>assumption);refine⟨aa,aj,a8,a9,hy,hR.mono ?_⟩;rintro e U' ⟨g1,g2,g3,g4⟩;refine⟨g1,g2,?_⟩;rcases g4 with⟨rfl,k1,k2⟩|⟨rfl,c,k1,k2⟩
   ·exact .inl ⟨rfl,k1,k2,(g3 _ (.inl rfl) (by omega)).trans j,t,p⟩
   ·exact .inr ⟨rfl,c,k1,k2,(g3 _ (.inl rfl) (by omega)).trans j,t,p⟩
  ·refine⟨hI [] R _ w o h0 (a6 _) (fun b i=>?_),ad,ab,fun h=>?_,fun h=>?_⟩
   ·rcases i with i|i
    ·exact .inl i
    ·exact .inr (hX b i).1
   ·have:=a5 _ h;omega
   ·have:=a5 _ h;omega
  ·rintro e W2 ⟨⟨v,rfl⟩,A,a7,a3,(⟨C,l,j,t,p⟩|⟨c,C,l,j,t,p⟩)⟩
   ·refine⟨none,_,by have:=run_endLoop (P:=P) l (by rw[a0];simp);rw[a0]at this;exact this,hdone _ _ _ (AG _) (.inr (.inl rfl)) (fun b i=>.inl (a7 b i)) (fun b i=>by have u1:=(aG.1 l).1;have u2:=(aG.1 j).1;rw[World.putObj_size];exact i.elim (a3 b) (fun i=>by rcases i with rfl|rfl<;>assumption)) (hI.step C ((Aj.refl _ _).put (.inr ⟨by omega,.inr (.inr rfl)⟩) _)) ((World.putObj_heap_other (by omega)).trans j)⟩
   ·refine⟨some c,_,by have:=run_endLoop (P:=P) l (by rw[a0];simp);rw[a0]at this;exact this,hstop _ c _ _ (AG _) (.inr (.inl rfl)) (fun b i=>.inl (a7 b i)) (fun b i=>by have u1:=(aG.1 l).1;have u2:=(aG.1 j).1;rw[World.putObj_size];exact i.elim (a3 b) (fun i=>by rcases i with rfl|rfl<;>assumption)) ((hIx c).step (s:=()) C ((Aj.refl _ _).put (.inr ⟨by omega,.inr (.inr rfl)⟩) _)) ((World.putObj_heap_other (by omega)).trans j)⟩
end
section
variable {P:Program} {ops:Array Oper} {Q:Exit->Act->World->Prop} {md:Region.Mode} {S:World->Prop} {Z:Nat->Bool}
def DS(P:Program)(md:Region.Mode)(ops:Array Oper)(Q:Exit->Act->World->Prop)(S:World->Prop)(Z:Nat->Bool):Nat->Array Bool->Act->World->Prop
 | 0,listed,a,w=>Region.ready md ops listed=[]/\Q .normal a w
 | f+1,listed,a,w=>(Region.ready md ops listed=[]->Q .normal a w)/\∀i∈Region.ready md ops listed,wpOp P ops Q i (fun l j=>(Z i=false->S w->S j)/\DS P md ops Q S Z f (listed.setIfInBounds i true) l j) a w
theorem PE:∀(f:Nat) (listed:Array Bool) (a:Act) (w:World),DS P md ops Q S Z f listed a w->wpAny P md ops Q f listed a w
 | 0,_,_,_,h=>h
 | f+1,_,_,_,h=>⟨h.1,fun i o=>wpOp_mono (fun j p l=>PE f _ j p l.2) (h.2 i o)⟩
theorem WJ{id:Nat}{a:Act}{w:World}(Z:Nat->Bool)(S:World->Prop)(i:P.follows .mixedOrders=true)(h:DS P .any ops Q S Z ops.size (Array.replicate ops.size false) a w.drew):(Code.region id ops true).wp P Q a w:=
 wp_region_any i (PE _ _ _ _ h)
theorem VW{i:Nat}{T:Oper}{v:Value}(hi:ops[i]?=some T)(a7:∀(j:Nat) (o:Oper) cs b,ops[j]?=some o->o.op ≠ .select cs b)(hQ:∀c a w,Q (.panic c) (a.put T.dst v) w->Q (.panic c) a w)(hz:((List.range ops.size).all fun z=>!Z z||Region.waitsFor md ops z i)=true) :
  ∀(f:Nat) (listed:Array Bool) (a:Act) (w:World),(∀j l,ops[j]?=some l->j≠i->listed.getD j true=false->(∀e∈l.after,Region.binds md e=true->e.on≠i)->T.apart ops l=true) ->
   i∈Region.ready md ops listed->YieldsIf P ops S T v a->S w->DS P md ops Q S Z f (listed.setIfInBounds i true) (a.put T.dst v) w->DS P md ops Q S Z (f+1) listed a w:=by
 have ah:∀(listed:Array Bool) (j:Nat) (l:Oper),i∈Region.ready md ops listed->ops[j]?=some l->j∈Region.ready md ops listed->∀e∈l.after,Region.binds md e=true->e.on≠i:=fun listed j l p I J e he hb heq=>by
  obtain⟨_,ai,a5,a8⟩:=mem_ready.1 J;rw[I]at a5;cases a5
  have t:=a8 e he hb;rw[heq,getD_both (mem_ready.1 p).1]at t;cases t
 intro f;induction f with
 | zero=>
  intro listed a w _ p hy R H;refine⟨fun h=>(by rw[h]at p;cases p),fun j J=>?_⟩;by_cases C:j=i
  ·subst C;exact hy.wpOp hi R ⟨fun _ _=>R,H⟩
  ·have U:=ready_mono J C
   rw[H.1]at U;cases U
 | succ f ih=>
  intro listed a w a0 p hy R H;refine⟨fun h=>(by rw[h]at p;cases p),fun j J=>?_⟩;by_cases C:j=i
  ·subst C;exact hy.wpOp hi R ⟨fun _ _=>R,H⟩
  ·have t:=H.2 j (ready_mono J C)
   obtain⟨a2,l,I,_⟩:=mem_ready.1 J;have a4:=ah listed j l p I J;have ad:Z j=false:=by
    cases hZ:Z j with
    | false=>rfl
    | true=>
     have ab:j<ops.size:=(aG.1 I).1;have t:=List.all_eq_true.1 hz j (List.mem_range.2 ab);rw[hZ]at t;simp only[Bool.not_true,Bool.false_or]at t;obtain⟨oz,a6,ez,aa,a9,ag⟩:=Region.waitsFor_spec t;rw[I]at a6;cases a6
     exact absurd ag (a4 ez aa a9)
   have U:=wpOp_putIf I (a0 j l I C a2 a4) (fun cs b=>a7 i T cs b hi) (fun cs b=>a7 j l cs b I) hQ hy t;refine wpOp_mono (fun a' w' h3=>⟨h3.2.1,ih (listed.setIfInBounds j true) a' w' (fun k ok hk ae a3 af=>a0 k ok hk ae ?_ af) (ready_mono p (Ne.symm C)) h3.1 (h3.2.1 ad R) ?_⟩) U
   ·by_cases a1:j=k
    ·subst a1;exact a2
    ·rw[getD_set_ne true a1]at a3;exact a3
   ·rw[Array.setIfInBounds_comm _ _ C]
    exact h3.2.2
theorem Lu(i:Nat){j:Oper}{v:Value}{d f:Nat}{listed:Array Bool}{l:List Value}{o:List Deferred}{w:World}(p:ops[i]?=some j)(T:Region.noSelect ops=true)(J:Region.free md ops listed i=true)(R:(Region.ready md ops listed).contains i=true)(hz:((List.range ops.size).all fun z=>!Z z||Region.waitsFor md ops z i)=true)
  (t:∀c a w,Q (.panic c) (a.put j.dst v) w->Q (.panic c) a w) (U:YieldsIf P ops S j v {tmps:=l.toArray,defers:=o}) (C:S w) (I:j.dst=some d)
  (h:DS P md ops Q S Z f (listed.setIfInBounds i true) {tmps:=(l.set d v).toArray,defers:=o} w):DS P md ops Q S Z (f+1) listed {tmps:=l.toArray,defers:=o} w:=by
 refine VW p (Region.noSelect_spec T) t hz f listed _ w (Region.free_spec p J) (by simpa using R) U C ?_;rw[I];simpa [Act.put] using h
theorem Wt{i:Nat}{J:Oper}{v:Value}(hi:ops[i]?=some J)(a5:∀(j:Nat) (o:Oper) cs b,ops[j]?=some o->o.op ≠ .select cs b)(hQ:∀c a w,Q (.panic c) (a.put J.dst v) w->Q (.panic c) a w) :
  ∀(f:Nat) (listed:Array Bool) (a:Act) (w:World),(∀j l,ops[j]?=some l->j≠i->listed.getD j true=false->(∀e∈l.after,Region.binds md e=true->e.on≠i)->J.apart ops l=true) ->
   i∈Region.ready md ops listed->YieldsIf P ops (fun _=>True) J v a->DS P md ops Q S Z f (listed.setIfInBounds i true) (a.put J.dst v) w->DS P md ops Q S Z (f+1) listed a w:=by
 have aa:∀(listed:Array Bool) (j:Nat) (l:Oper),i∈Region.ready md ops listed->ops[j]?=some l->j∈Region.ready md ops listed->∀e∈l.after,Region.binds md e=true->e.on≠i:=fun listed j l p I C e he hb heq=>by
  obtain⟨_,ab,a4,a6⟩:=mem_ready.1 C;rw[I]at a4;cases a4
  have R:=a6 e he hb;rw[heq,getD_both (mem_ready.1 p).1]at R;cases R
 intro f;induction f with
 | zero=>
  intro listed a w _ p U H;refine⟨fun h=>(by rw[h]at p;cases p),fun j C=>?_⟩;by_cases t:j=i
  ·subst t;exact U.wpOp hi trivial ⟨fun _ h=>h,H⟩
  ·have T:=ready_mono C t
   rw[H.1]at T;cases T
 | succ f ih=>
  intro listed a w a0 p U H;refine⟨fun h=>(by rw[h]at p;cases p),fun j C=>?_⟩;by_cases t:j=i
  ·subst t;exact U.wpOp hi trivial ⟨fun _ h=>h,H⟩
  ·have R:=H.2 j (ready_mono C t)
   obtain⟨a2,l,I,_⟩:=mem_ready.1 C;have a9:=aa listed j l p I C;have T:=wpOp_putIf I (a0 j l I t a2 a9) (fun cs b=>a5 i J cs b hi) (fun cs b=>a5 j l cs b I) hQ U R;refine wpOp_mono (fun a' w' h3=>⟨h3.2.1,ih (listed.setIfInBounds j true) a' w' (fun k ok hk a7 a3 a8=>a0 k ok hk a7 ?_ a8) (ready_mono p (Ne.symm t)) h3.1 ?_⟩) T
   ·by_cases a1:j=k
    ·subst a1;exact a2
    ·rw[getD_set_ne true a1]at a3;exact a3
   ·rw[Array.setIfInBounds_comm _ _ t]
    exact h3.2.2
theorem LY(i:Nat){j:Oper}{v:Value}{d f:Nat}{listed:Array Bool}{l:List Value}{o:List Deferred}{w:World}(p:ops[i]?=some j)(R:Region.noSelect ops=true)(I:Region.free md ops listed i=true)(J:(Region.ready md ops listed).contains i=true)
  (t:∀c a w,Q (.panic c) (a.put j.dst v) w->Q (.panic c) a w) (T:YieldsIf P ops (fun _=>True) j v {tmps:=l.toArray,defers:=o}) (C:j.dst=some d)
  (h:DS P md ops Q S Z f (listed.setIfInBounds i true) {tmps:=(l.set d v).toArray,defers:=o} w):DS P md ops Q S Z (f+1) listed {tmps:=l.toArray,defers:=o} w:=by
 refine Wt p (Region.noSelect_spec R) t f listed _ w (Region.free_spec p I) (by simpa using J) T ?_;rw[C];simpa [Act.put] using h
theorem H6(i:Nat){o:Oper}{f:Nat}{listed:Array Bool}{a:Act}{w:World}(p:Region.ready md ops listed=[i])(J:ops[i]?=some o)(I:o.guard=none)
  (h:∀K:Act->World->Prop,Shut (∀a w',(Z i=false->S w->S w')->DS P md ops Q S Z f (listed.setIfInBounds i true) a w'->K a w')->o.wp P a w K Q):DS P md ops Q S Z (f+1) listed a w:=by
 refine⟨fun h0=>(by rw[p]at h0;cases h0),fun j l=>?_⟩;rw[p,mS]at l;subst l;unfold wpOp;rw[J];simp only;rw[if_pos (by unfold Region.wanted;rw[I])];exact .inl (h _ fun a w t C=>⟨t,C⟩)
theorem Jw(i:Nat){o:Oper}{f d:Nat}{listed:Array Bool}{l:List Value}{j:List Deferred}{w:World}(T:Region.ready md ops listed=[i])(R:ops[i]?=some o)(J:o.guard=none)(I:o.dst=some d)
  (h:∀K:Act->World->Prop,Shut (∀v w',(Z i=false->S w->S w')->DS P md ops Q S Z f (listed.setIfInBounds i true) {tmps:=(l.set d v).toArray,defers:=j} w'->K (({tmps:=l.toArray,defers:=j}:Act).put o.dst v) w')->o.wp P {tmps:=l.toArray,defers:=j} w K Q):DS P md ops Q S Z (f+1) listed {tmps:=l.toArray,defers:=j} w:=by
 refine H6 i T R J fun K C=>h K fun v w p t=>?_
 refine C _ _ p ?_;rw[I];simpa [Act.put] using t
theorem RP(i j:Nat){f:Nat}{listed:Array Bool}{a:Act}{w:World}(p:Region.ready md ops listed=[i,j])(t:wpOp P ops Q i (fun o w'=>(Z i=false->S w->S w')/\DS P md ops Q S Z f (listed.setIfInBounds i true) o w') a w)
  (C:wpOp P ops Q j (fun o w'=>(Z j=false->S w->S w')/\DS P md ops Q S Z f (listed.setIfInBounds j true) o w') a w):DS P md ops Q S Z (f+1) listed a w:=by
 refine⟨fun h0=>(by rw[p]at h0;cases h0),fun k l=>?_⟩;rw[p]at l;rcases List.mem_cons.1 l with rfl|l
 ·exact t
 ·rw[mS]at l
  subst l;exact C
theorem Mb(i:Nat){o:Oper}{f d:Nat}{listed:Array Bool}{l:List Value}{j:List Deferred}{w:World}(R:ops[i]?=some o)(J:o.guard=none)(I:o.dst=some d)
  (h:∀K:Act->World->Prop,Shut (∀v w',(Z i=false->S w->S w')->DS P md ops Q S Z f (listed.setIfInBounds i true) {tmps:=(l.set d v).toArray,defers:=j} w'->K (({tmps:=l.toArray,defers:=j}:Act).put o.dst v) w')->o.wp P {tmps:=l.toArray,defers:=j} w K Q) :
  wpOp P ops Q i (fun p w'=>(Z i=false->S w->S w')/\DS P md ops Q S Z f (listed.setIfInBounds i true) p w') {tmps:=l.toArray,defers:=j} w:=by
 unfold wpOp;rw[R];simp only;rw[if_pos (by unfold Region.wanted;rw[J])];refine .inl (h _ fun v w' t C=>?_);rw[I];exact⟨t,by simpa [Act.put] using C⟩
theorem NP{listed:Array Bool}{a:Act}{w:World}(i:Region.ready md ops listed=[])(h:Q .normal a w):∀f,DS P md ops Q S Z f listed a w
 | 0=>⟨i,h⟩
 | _+1=>⟨fun _=>h,by rw[i];simp⟩
end
section
set_option maxRecDepth 1000000
def G9:List UInt8:=[37,116,111,107,101,110,32,87,79,82,68,32,65,83,83,73,71,78,32,78,65,77,69,32,78,85,77,32,78,69,87,76,73,78,69,32,39,38,38,39,32,39,124,124,39,32,39,59,59,39,32,39,59,39,32,39,38,39,32,39,124,39,32,39,40,39,32,39,41,39,10,37,116,111,107,101,110,32,39,60,39,32,39,62,39,32,39,62,62,39,32,39,60,60,39,32,39,60,60,45,39,32,39,60,38,39,32,39,62,38,39,32,39,60,62,39,32,39,62,124,39,10,37,116,111,107,101,110,32,73,102,32,84,104,101,110,32,69,108,115,101,32,69,108,105,102,32,70,105,32,68,111,32,68,111,110,101,32,67,97,115,101,32,69,115,97,99,32,87,104,105,108,101,32,85,110,116,105,108,32,70,111,114,32,76,98,114,97,99,101,32,82,98,114,97,99,101,32,66,97,110,103,32,73,110,10,37,115,116,97,114,116,32,117,110,105,116,10,37,37,10,117,110,105,116,32,58,32,99,111,109,112,108,101,116,101,32,78,69,87,76,73,78,69,32,59,10,99,111,109,112,108,101,116,101,32,58,32,108,105,115,116,32,124,32,108,105,115,116,32,115,101,112,111,112,32,59,10,108,105,115,116,32,58,32,108,105,115,116,32,115,101,112,111,112,32,97,110,100,111,114,32,124,32,97,110,100,111,114,32,59,10,97,110,100,111,114,32,58,32,112,105,112,101,108,105,110,101,32,124,32,97,110,100,111,114,32,39,38,38,39,32,108,105,110,101,98,114,101,97,107,32,112,105,112,101,108,105,110,101,32,124,32,97,110,100,111,114,32,39,124,124,39,32,108,105,110,101,98,114,101,97,107,32,112,105,112,101,108,105,110,101,32,59,10,112,105,112,101,108,105,110,101,32,58,32,112,105,112,101,115,32,124,32,66,97,110,103,32,112,105,112,101,115,32,59,10,112,105,112,101,115,32,58,32,99,111,109,109,97,110,100,32,124,32,112,105,112,101,115,32,39,124,39,32,108,105,110,101,98,114,101,97,107,32,99,111,109,109,97,110,100,32,59,10,99,111,109,109,97,110,100,32,58,32,115,105,109,112,108,101,32,124,32,99,111,109,112,111,117,110,100,32,124,32,99,111,109,112,111,117,110,100,32,114,101,100,105,114,115,32,124,32,102,117,110,99,116,105,111,110,32,59,10,99,111,109,112,111,117,110,100,32,58,32,98,114,97,99,101,32,124,32,115,117,98,115,104,101,108,108,32,124,32,102,111,114,99,32,124,32,99,97,115,101,99,32,124,32,105,102,99,32,124,32,119,104,105,108,101,99,32,124,32,117,110,116,105,108,99,32,59,10,115,117,98,115,104,101,108,108,32,58,32,39,40,39,32,99,108,105,115,116,32,39,41,39,32,59,10,99,108,105,115,116,32,58,32,108,105,110,101,98,114,101,97,107,32,116,101,114,109,32,124,32,108,105,110,101,98,114,101,97,107,32,116,101,114,109,32,115,101,112,32,59,10,116,101,114,109,32,58,32,116,101,114,109,32,115,101,112,32,97,110,100,111,114,32,124,32,97,110,100,111,114,32,59,10,102,111,114,99,32,58,32,70,111,114,32,78,65,77,69,32,100,111,103,114,111,117,112,32,124,32,70,111,114,32,78,65,77,69,32,115,101,113,115,101,112,32,100,111,103,114,111,117,112,10,32,124,32,70,111,114,32,78,65,77,69,32,108,105,110,101,98,114,101,97,107,32,73,110,32,115,101,113,115,101,112,32,100,111,103,114,111,117,112,32,124,32,70,111,114,32,78,65,77,69,32,108,105,110,101,98,114,101,97,107,32,73,110,32,119,111,114,100,115,32,115,101,113,115,101,112,32,100,111,103,114,111,117,112,32,59,10,119,111,114,100,115,32,58,32,119,111,114,100,115,32,87,79,82,68,32,124,32,87,79,82,68,32,59,10,99,97,115,101,99,32,58,32,67,97,115,101,32,87,79,82,68,32,108,105,110,101,98,114,101,97,107,32,73,110,32,108,105,110,101,98,114,101,97,107,32,99,97,115,101,108,105,115,116,32,69,115,97,99,10,32,124,32,67,97,115,101,32,87,79,82,68,32,108,105,110,101,98,114,101,97,107,32,73,110,32,108,105,110,101,98,114,101,97,107,32,99,97,115,101,108,105,115,116,110,115,32,69,115,97,99,32,124,32,67,97,115,101,32,87,79,82,68,32,108,105,110,101,98,114,101,97,107,32,73,110,32,108,105,110,101,98,114,101,97,107,32,69,115,97,99,32,59,10,99,97,115,101,108,105,115,116,110,115,32,58,32,99,97,115,101,108,105,115,116,32,99,97,115,101,105,116,101,109,110,115,32,124,32,99,97,115,101,105,116,101,109,110,115,32,59,10,99,97,115,101,108,105,115,116,32,58,32,99,97,115,101,108,105,115,116,32,99,97,115,101,105,116,101,109,32,124,32,99,97,115,101,105,116,101,109,32,59,10,99,97,115,101,105,116,101,109,110,115,32,58,32,112,97,116,116,101,114,110,32,39,41,39,32,108,105,110,101,98,114,101,97,107,32,124,32,112,97,116,116,101,114,110,32,39,41,39,32,99,108,105,115,116,10,32,124,32,39,40,39,32,112,97,116,116,101,114,110,32,39,41,39,32,108,105,110,101,98,114,101,97,107,32,124,32,39,40,39,32,112,97,116,116,101,114,110,32,39,41,39,32,99,108,105,115,116,32,59,10,99,97,115,101,105,116,101,109,32,58,32,112,97,116,116,101,114,110,32,39,41,39,32,108,105,110,101,98,114,101,97,107,32,39,59,59,39,32,108,105,110,101,98,114,101,97,107,32,124,32,112,97,116,116,101,114,110,32,39,41,39,32,99,108,105,115,116,32,39,59,59,39,32,108,105,110,101,98,114,101,97,107,10,32,124,32,39,40,39,32,112,97,116,116,101,114,110,32,39,41,39,32,108,105,110,101,98,114,101,97,107,32,39,59,59,39,32,108,105,110,101,98,114,101,97,107,32,124,32,39,40,39,32,112,97,116,116,101,114,110,32,39,41,39,32,99,108,105,115,116,32,39,59,59,39,32,108,105,110,101,98,114,101,97,107,32,59,10,112,97,116,116,101,114,110,32,58,32,87,79,82,68,32,124,32,112,97,116,116,101,114,110,32,39,124,39,32,87,79,82,68,32,59,10,105,102,99,32,58,32,73,102,32,99,108,105,115,116,32,84,104,101,110,32,99,108,105,115,116,32,101,108,115,101,112,97,114,116,32,70,105,32,124,32,73,102,32,99,108,105,115,116,32,84,104,101,110,32,99,108,105,115,116,32,70,105,32,59,10,101,108,115,101,112,97,114,116,32,58,32,69,108,105,102,32,99,108,105,115,116,32,84,104,101,110,32,99,108,105,115,116,32,124,32,69,108,105,102,32,99,108,105,115,116,32,84,104,101,110,32,99,108,105,115,116,32,101,108,115,101,112,97,114,116,32,124,32,69,108,115,101,32,99,108,105,115,116,32,59,10,119,104,105,108,101,99,32,58,32,87,104,105,108,101,32,99,108,105,115,116,32,100,111,103,114,111,117,112,32,59,10,117,110,116,105,108,99,32,58,32,85,110,116,105,108,32,99,108,105,115,116,32,100,111,103,114,111,117,112,32,59,10,102,117,110,99,116,105,111,110,32,58,32,78,65,77,69,32,39,40,39,32,39,41,39,32,108,105,110,101,98,114,101,97,107,32,102,117,110,98,111,100,121,32,59,10,102,117,110,98,111,100,121,32,58,32,99,111,109,112,111,117,110,100,32,124,32,99,111,109,112,111,117,110,100,32,114,101,100,105,114,115,32,59,10,98,114,97,99,101,32,58,32,76,98,114,97,99,101,32,99,108,105,115,116,32,82,98,114,97,99,101,32,59,10,100,111,103,114,111,117,112,32,58,32,68,111,32,99,108,105,115,116,32,68,111,110,101,32,59,10,115,105,109,112,108,101,32,58,32,112,114,101,102,105,120,32,99,109,100,119,111,114,100,32,115,117,102,102,105,120,32,124,32,112,114,101,102,105,120,32,99,109,100,119,111,114,100,32,124,32,112,114,101,102,105,120,32,124,32,99,109,100,110,97,109,101,32,115,117,102,102,105,120,32,124,32,99,109,100,110,97,109,101,32,59,10,99,109,100,110,97,109,101,32,58,32,87,79,82,68,32,124,32,78,65,77,69,32,59,10,99,109,100,119,111,114,100,32,58,32,87,79,82,68,32,59,10,112,114,101,102,105,120,32,58,32,114,101,100,105,114,32,124,32,112,114,101,102,105,120,32,114,101,100,105,114,32,124,32,65,83,83,73,71,78,32,124,32,112,114,101,102,105,120,32,65,83,83,73,71,78,32,59,10,115,117,102,102,105,120,32,58,32,114,101,100,105,114,32,124,32,115,117,102,102,105,120,32,114,101,100,105,114,32,124,32,87,79,82,68,32,124,32,115,117,102,102,105,120,32,87,79,82,68,32,59,10,114,101,100,105,114,115,32,58,32,114,101,100,105,114,32,124,32,114,101,100,105,114,115,32,114,101,100,105,114,32,59,10,114,101,100,105,114,32,58,32,105,111,102,105,108,101,32,124,32,78,85,77,32,105,111,102,105,108,101,32,124,32,105,111,104,101,114,101,32,124,32,78,85,77,32,105,111,104,101,114,101,32,59,10,105,111,102,105,108,101,32,58,32,39,60,39,32,87,79,82,68,32,124,32,39,60,38,39,32,87,79,82,68,32,124,32,39,62,39,32,87,79,82,68,32,124,32,39,62,38,39,32,87,79,82,68,32,124,32,39,62,62,39,32,87,79,82,68,32,124,32,39,60,62,39,32,87,79,82,68,32,124,32,39,62,124,39,32,87,79,82,68,32,59,10,105,111,104,101,114,101,32,58,32,39,60,60,39,32,87,79,82,68,32,124,32,39,60,60,45,39,32,87,79,82,68,32,59,10,110,101,119,108,105,110,101,115,32,58,32,78,69,87,76,73,78,69,32,124,32,110,101,119,108,105,110,101,115,32,78,69,87,76,73,78,69,32,59,10,108,105,110,101,98,114,101,97,107,32,58,32,110,101,119,108,105,110,101,115,32,124,32,59,10,115,101,112,111,112,32,58,32,39,38,39,32,124,32,39,59,39,32,59,10,115,101,112,32,58,32,115,101,112,111,112,32,108,105,110,101,98,114,101,97,107,32,124,32,110,101,119,108,105,110,101,115,32,59,10,115,101,113,115,101,112,32,58,32,39,59,39,32,108,105,110,101,98,114,101,97,107,32,124,32,110,101,119,108,105,110,101,115,32,59,10]
def MQ(g:PG):Bool:=g.T.length==38&&(g.T++g.N)[17]?==some [39,60,60,45,39]&&(g.T++g.N)[g.s-1]?==some [117,110,105,116]&&decide (1<=g.s)&&decide (g.s<=g.T.length+g.N.length)
theorem XR:(match E9 G9 with | .ok g=>MQ g | .error _=>false)=true:=by decide +kernel
theorem Xh:∃g,E9 G9=.ok g/\MQ g=true:=by
 have h:=XR;cases i:E9 G9 with
 | error e=>rw[i]at h;cases h
 | ok g=>rw[i]at h;exact⟨g,rfl,h⟩
end
def Gv:List (List UInt8):=[[],[38,38],[124,124],[59,59],[59],[38],[124],[40],[41],[60],[62],[62,62],[60,60],[60,60,45],[60,38],[62,38],[60,62],[62,124]]
def Dn:List (List UInt8):=[[105,102],[116,104,101,110],[101,108,115,101],[101,108,105,102],[102,105],[100,111],[100,111,110,101],[99,97,115,101],[101,115,97,99],[119,104,105,108,101],[117,110,116,105,108],[102,111,114],[123],[125],[33],[105,110]]
def bs(l:List UInt8):ByteArray:=⟨l.toArray⟩
def Hn(w:World):Prop:=(∀k (h:k<Gv.length),w.cell? ⟨1,k,none⟩=some (.string (bs Gv[k])))/\(∀k (h:k<Dn.length),w.cell? ⟨0,k,none⟩=some (.string (bs Dn[k])))
theorem Hn.later{w w':World}(h:Hn w)(j:Below w.heap.size w w'):Hn w':=
 ⟨fun k i=>(j.cell (p:=⟨1,k,none⟩) (World.block_lt_of_cell? w _ (h.1 k i))).trans (h.1 k i),fun k i=>(j.cell (p:=⟨0,k,none⟩) (World.block_lt_of_cell? w _ (h.2 k i))).trans (h.2 k i)⟩
def J8(op:Int):ByteArray:=if op<0 then bs [] else bs (Gv.getD op.toNat [])
theorem Sm(op:Int){w:World}(h:Hn w):Calls Tryz.prog 71 #[.int .i64 op] w fun e w'=>e=.returned (.string (J8 op))/\w=w':=by
 unfold J8;by_cases h0:op<0
 ·rw[if_pos h0]
  go_enter Tryz.func71,Tryz.ntmps71
  go_wp2;go_ret;exact⟨rfl,rfl⟩
 ·rw[if_neg h0]
  obtain⟨k,rfl⟩:∃k:Nat,op=k:=⟨op.toNat,by omega⟩
  by_cases o:18<=k
  ·have l:(18:Int)<=(k:Int):=by omega
   have i:Gv.getD (k:Int).toNat []=[]:=by rw[dG,nG (by simp[Gv];omega)];rfl
   rw[i];go_enter Tryz.func71,Tryz.ntmps71
   go_wp2;go_ret;exact⟨rfl,rfl⟩
  ·have l:¬(18:Int)<=(k:Int):=by omega
   have C:(k:Int)<18:=by omega
   have j:k<Gv.length:=by show k<18;omega
   have p:=h.1 k j;have i:Gv.getD (k:Int).toNat []=Gv[k]:=by rw[dG,Int.toNat_natCast,eG j];rfl
   rw[i];generalize bs Gv[k]=t at *;go_enter Tryz.func71,Tryz.ntmps71
   go_wp2;go_ret;exact⟨rfl,rfl⟩
def RI(op:Int):Int:=if 1<=op/\op<=17 then 5+op else 0
theorem Ua(op:Int):(J8 op).toList.isEmpty=!decide (1<=op/\op<=17):=by
 rw[Lib.toList_data];unfold J8;by_cases h0:op<0
 ·rw[if_pos h0,decide_eq_false (by omega)];rfl
 ·rw[if_neg h0]
  obtain⟨k,rfl⟩:∃k:Nat,op=k:=⟨op.toNat,by omega⟩
  by_cases i:18<=k
  ·rw[dG,nG (by simp[Gv];omega),decide_eq_false (by omega)]
   rfl
  ·have this:(List.range 18).all (fun j:Nat=>(bs (Gv.getD (j:Int).toNat [])).data.toList.isEmpty==!decide (1<=(j:Int)/\(j:Int)<=17))=true:=by decide +kernel
   exact beq_iff_eq.1 (List.all_eq_true.1 this k (List.mem_range.2 (by omega)))
theorem Wc(op:Int){w:World}(h:Hn w):Calls Tryz.prog 32 #[.int .i64 op] w fun e w'=>e=.returned (.int .i64 (RI op))/\w=w':=by
 have j:=Hd (Sm op h);have l:=Ua op;unfold RI;generalize J8 op=t at *;by_cases i:1<=op/\op<=17
 ·rw[if_pos i]
  rw[decide_eq_true i]at l;obtain⟨a,b⟩:=i;go_enter Tryz.func32,Tryz.ntmps32
  go_wp2_with (go_at_call 71;refine j.out.mono ?_;rintro e w' ⟨rfl,rfl⟩)
  go_ret;exact⟨rfl,rfl⟩
 ·rw[if_neg i]
  rw[decide_eq_false i]at l;clear i;go_enter Tryz.func32,Tryz.ntmps32
  go_wp2_with (go_at_call 71;refine j.out.mono ?_;rintro e w' ⟨rfl,rfl⟩)
  go_ret;exact⟨rfl,rfl⟩
def JE(s:ByteArray):Int:=if Dn.findIdx (fun l=>(bs l).toList==s.toList)<16 then 23+(Dn.findIdx (fun l=>(bs l).toList==s.toList):Nat) else 0
theorem bV(s:ByteArray){w:World}(h:Hn w):Calls Tryz.prog 33 #[.string s] w fun e w'=>e=.returned (.int .i64 (JE s))/\w=w':=by
 have T:=Hd h.2;clear h;go_enter Tryz.func33,Tryz.ntmps33
 go_wp2
 go_loop [4] (fun i=>∃k:Nat,k<=16/\i=.int .i64 k/\Hid (∀j (o:j<Dn.length),j<k->((bs Dn[j]).toList==s.toList)=false)) (fun i=>16-(intOf i).toNat)
 case atStart=>exact⟨0,by omega,rfl,Hd (fun j o h=>absurd h (Nat.not_lt_zero _))⟩
 case round=>
  obtain⟨k,hk,rfl,t⟩:=hrel;by_cases R:k<16
  ·have P:k<Dn.length:=R
   have hc:=T.out k P;cases J:((bs Dn[k]).toList==s.toList) with
   | true=>
    have p:Hid (JE s=23+(k:Int)):=Hd (by
     have C:Dn.findIdx (fun l=>(bs l).toList==s.toList)=k:=by rw[List.findIdx_eq P];exact⟨J,fun j o=>t.out j (by omega) o⟩
     unfold JE;rw[C,if_pos R])
    generalize bs Dn[k]=a0 at *;go_wp2;go_ret;rw[p.out];exact⟨rfl,rfl⟩
   | false=>
    have p:Hid (∀j (o:j<Dn.length),j<k+1->((bs Dn[j]).toList==s.toList)=false):=Hd (fun j o h=>by
     rcases Nat.lt_or_ge j k with I|I
     ·exact t.out j o I
     ·obtain rfl:j=k:=by omega
      exact J)
    generalize bs Dn[k]=a0 at *;go_wp2
    go_round
    case rel=>exact⟨k+1,by omega,by go_num,p⟩
    case measure=>simp[intOf];omega
  ·have p:Hid (JE s=0):=Hd (by
    have C:Dn.findIdx (fun l=>(bs l).toList==s.toList)=Dn.length:=by rw[List.findIdx_eq_length];intro x U;obtain⟨j,o,rfl⟩:=List.getElem_of_mem U;exact t.out j o (by have:Dn.length=16:=rfl;omega)
    unfold JE;rw[C,if_neg (by decide)])
   obtain rfl:k=16:=by omega
   go_wp2;go_ret;rw[p.out];exact⟨rfl,rfl⟩
def OM(t:Int):ByteArray:=if t=1 then⟨#[39,39]⟩ else if t=2 then⟨#[120,61]⟩ else if t=3 then⟨#[120]⟩ else if t=4 then⟨#[49]⟩ else if t=5 then⟨#[10]⟩ else
 if 23<=t/\t<=38 then bs (Dn.getD (t-23).toNat []) else if 5<t/\t<23 then J8 (t-5) else⟨#[]⟩
theorem XX(t:Int)(U : -9223372036854775808<=t){w:World}(h:Hn w):Calls Tryz.prog 34 #[.int .i64 t] w fun e w'=>e=.returned (.string (OM t))/\w=w':=by
 have R:=Hd (Sm (t-5) h);have P:=Hd h.2;clear h;unfold OM;by_cases l:t=1
 ·subst l
  go_enter Tryz.func34,Tryz.ntmps34
  go_wp2;go_ret;exact⟨rfl,rfl⟩
 by_cases o:t=2
 ·subst o
  go_enter Tryz.func34,Tryz.ntmps34
  go_wp2;go_ret;exact⟨rfl,rfl⟩
 by_cases p:t=3
 ·subst p
  go_enter Tryz.func34,Tryz.ntmps34
  go_wp2;go_ret;exact⟨rfl,rfl⟩
 by_cases C:t=4
 ·subst C
  go_enter Tryz.func34,Tryz.ntmps34
  go_wp2;go_ret;exact⟨rfl,rfl⟩
 by_cases I:t=5
 ·subst I
  go_enter Tryz.func34,Tryz.ntmps34
  go_wp2;go_ret;exact⟨rfl,rfl⟩
 rw[if_neg l,if_neg o,if_neg p,if_neg C,if_neg I];have q1:(t==1)=false:=bN.2 l;have q2:(t==2)=false:=bN.2 o;have q3:(t==3)=false:=bN.2 p;have q4:(t==4)=false:=bN.2 C;have q5:(t==5)=false:=bN.2 I;clear l o p C I;by_cases i:23<=t/\t<=38
 ·rw[if_pos i]
  obtain⟨a,b⟩:=i;obtain⟨k,rfl⟩:∃k:Nat,t=(k:Int)+23:=⟨(t-23).toNat,by omega⟩
  have J:k<Dn.length:=by show k<16;omega
  have hc:=P.out k J;have T:Dn.getD ((k:Int)+23-23).toNat []=Dn[k]:=by rw[show ((k:Int)+23-23).toNat=k by omega,dG,eG J];rfl
  rw[T];generalize bs Dn[k]=x at *;have a0:k<16:=J;have hs:(k:Int)+23-23=(k:Int):=by omega
  go_enter Tryz.func34,Tryz.ntmps34
  go_wp2;go_ret;exact⟨rfl,rfl⟩
 rw[if_neg i];by_cases j:5<t/\t<23
 ·rw[if_pos j]
  obtain⟨a,b⟩:=j;have c:¬23<=t:=by omega
  clear i;go_enter Tryz.func34,Tryz.ntmps34
  go_wp2_with (go_at_call 71;refine R.out.mono ?_;rintro e w' ⟨rfl,rfl⟩)
  go_ret;exact⟨rfl,rfl⟩
 rw[if_neg j];rcases Int.lt_or_le 38 t with c|c
 ·have c2:¬t<=38:=by omega
  have c3:23<=t:=by omega
  have c4:¬t<23:=by omega
  have c5:5<t:=by omega
  clear i j;go_enter Tryz.func34,Tryz.ntmps34
  go_wp2;go_ret;exact⟨rfl,rfl⟩
 ·have c2:¬23<=t:=by omega
  have c5:¬5<t:=by omega
  clear i j;go_enter Tryz.func34,Tryz.ntmps34
  go_wp2;go_ret;exact⟨rfl,rfl⟩
section
open Go.ChangeShapes Go.WideShapes Go.ChangeAt Go.RowKit
section
variable {H:Type} {enc:TypeId×Value->H} {P:Program}
theorem S0(T:laidOutB P=true){W J:World}(R:Below W.heap.size W J)(I:Nat->Bool) :
  ∀(l:List TypeId) (C:List Value) (o:List (DataW H)) (j:List MemPlace),(∀t∈l,P.readableRec t=true/\t<P.types.size) ->
   DataW.TrodAll enc P W 0 (fun _=>true) true l C o j->(∀p∈j,p.block<W.heap.size)->(∀p∈j,I p.block=true)->DataW.TrodAll enc P J 0 I true l C o j
 | [],[],[],j,_,h,_,_=>h
 | t::l,v::C,d::o,j,hr,h,U,hs=>by
  obtain⟨p,q,h1,h2,rfl⟩:=h;have a0:=hr t (by simp);exact⟨p,q,WideElems.Trod_stays T a0.1 a0.2 h1 (fun x i=>R.same (U x (by simp[i]))) (fun x i=>hs x (by simp[i])),
   S0 T R I l C o q (fun t ht=>hr t (by simp[ht])) h2 (fun x i=>U x (by simp[i])) (fun x i=>hs x (by simp[i])),rfl⟩
 | [],[],_::_,_,_,h,_,_=>h.elim
 | [],_::_,_,_,_,h,_,_=>h.elim
 | _::_,[],_,_,_,h,_,_=>h.elim
 | _::_,_::_,[],_,_,h,_,_=>h.elim
theorem bC{f:Func}{s:ChangeSpec}{apart fresh a8 a6:Bool}{W o:World}{args:Array Value}{l I:List (DataW H)}{a1:List MemPlace}
  (J:DataW.Whole enc P f.params.toList s.vars apart W args.toList l I a1) (hv:s.vars=[])
  (a0:s.fn H (l++I)={results:=[.lit (.bool true)],args:=l}) {tb:TypeId} (aa:f.resultTypes=#[tb]) (ab:P.underlying tb=some .bool)
  (hl:laidOutB P=true) (hr:∀t∈f.params.toList,P.readableRec t=true/\t<P.types.size) (R:Below W.heap.size W o)
  (a9:∀(j:Nat) (t:TypeId) (r:Value),f.resultTypes[j]?=some t->((Value.bool true).resultList f.resultTypes.size)[j]?=some r->Value.okWide P o .any 0 t r) :
  s.post enc P f apart fresh a8 a6 W args (.bool true) o:=by
 have T:∀p∈a1,p.block<W.heap.size:=fun p U=>J.lt p U
 have a4:∀(b:Nat) (i:Nat->Bool) (hd:Bool),DataW.TrodAll enc P o b i hd f.resultTypes.toList ((Value.bool true).resultList f.resultTypes.size) (s.fn H (l++I)).results []:=by intro b i hd;rw[a0,aa];exact trodAll_mk1 (shut_bool ab true)
 have a7:=J;obtain⟨p,q,hA,hV,rfl,hz,hn⟩:=J;rw[hv]at hV;obtain⟨rfl,rfl⟩:=trodVars_none hV;simp only[List.append_nil]at *;have a2:∀i:Nat->Bool,(∀x∈p,i x.block=true)->DataW.TrodAll enc P o 0 i true f.params.toList args.toList (s.fn H l).args p:=by intro i hs;rw[a0];exact S0 hl R i _ _ _ _ hr hA T hs
 have a5:∀i:Nat->Bool,DataW.TrodVars enc P o i s.vars (s.fn H l).vars []:=by intro i;rw[a0,hv];exact rfl
 refine⟨l,[],p,[],p,[],a7,by simpa using a4 _ _ _,by simpa using a2 _ (fun x C=>by simpa using T x C),by simpa using a5 _,World.keptBut_mono (fun x C=>⟨C,?_⟩) (R.frame (·∈p)),fun _=>?_⟩
 ·exact Or.inr (by simpa using C)
 ·have hh:=trodAll_append (a2 (fun _=>true) (fun _ _=>rfl)) (a4 0 (fun _=>true) true)
  refine⟨a9,_,(s.fn H l).vars,[]++p,⟨[]++p,[],hh,a5 _,by simp,?_,?_⟩,?_⟩
  ·intro b off U
   have a3:MemPlace.cell b off∈p:=by simpa using U
   rw[R.frozen (T _ a3)];exact hz b off a3
  ·intro ha
   simpa using hn ha
  ·intro x C _
   simpa using C
end
end
end Go.Proofs.YthaacmablcpdfaaGreatDoor
