/- . -/
import Derived.Test.YtendpobbjjaopaaGreatDoorXam
set_option linter.all false
set_option maxRecDepth 100000
set_option maxHeartbeats 16000000
namespace Go.Proofs.YtendpobbjjaopaaGreatDoor
open Go.RowKit
open Option renaming some→oM,none→oN
namespace Gz
def I8(g:Gz)(p:List Nat×List Nat)(x:It):List Nat×List Nat:=if g.BW (g.next x)=true/\g.next x ∉ p.2 then(p.1++[g.next x],g.next x::p.2) else p
def FO(g:Gz):Nat->List Nat->List Nat->List It->Option (List It)
 | 0,_,_,_=>oN
 | _+1,[],_,all=>if 300<all.length then oN else oM all
 | f+1,s::i,M,all=>if 10000<i.length+M.length+all.length then oN else FO g f ((g.En s).foldl g.I8 (i,M)).1 ((g.En s).foldl g.I8 (i,M)).2 (all++g.En s)
def L4:Nat:=1000
def EF(g:Gz):Nat->Option (List (List It))
 | 0=>oM []
 | k+1=>match EF g k with
  | none=>oN
  | some l=>if k<=g.nt then oM (l++[[]]) else match FO g L4 [k] [k] [] with
   | none=>oN
   | some r=>oM (l++[r])
def KB(g:Gz):Option (List (List It)):=EF g (g.top+1)
def Fu:List (List It)->Nat->List (List It)->List It->List (List It)×List It
 | [],_,L,t=>(L,t)
 | k::r,s,L,t=>if k.length=0 then Fu r (s+1) L t else Fu r (s+1) (EI L k).2 (t++[(s,(EI L k).1)])
def Ja(g:Gz)(bg:List (List It)):Nat->Nat->List (List It)->List (List It)->Option (List (List It)×List (List It))
 | 0,_,_,_=>oN
 | f+1,i,L,E=>match L[i]? with
  | none=>oM (L,E)
  | some K=>if 300<K.length then oN else
   if 2000<(Fu (g.G1 bg K) 0 L []).1.length then oN else Ja g bg f (i+1) (Fu (g.G1 bg K) 0 L []).1 (E++[(Fu (g.G1 bg K) 0 L []).2])
def KD(g:Gz)(f:Nat):Option (List (List It)×List (List It)):=match g.KB with
 | none=>oN
 | some bg=>Ja g bg f 0 [[(g.R.length,0)]] []
end Gz
def cZ(g:Gz)(s:Nat):(g.En s).length<=g.R.length:=by unfold Gz.En;rw[lM];exact L2 g s
def SJ{g:Gz}{s:Nat}{x:It}(h:x∈g.En s):x.1<g.R.length/\x.2=0:=by unfold Gz.En at h;obtain⟨k,i,rfl⟩:=List.mem_map.1 h;unfold Gz.CJ at i;have:=List.mem_range.1 (List.mem_filter.1 i).1;exact⟨this,rfl⟩
theorem UE{g:Gz}:∀(f:Nat) (j M:List Nat) (all r:List It),(∀x∈all,x.1<g.R.length/\x.2=0)->g.FO f j M all=oM r->r.length<=300/\∀x∈r,x.1<g.R.length/\x.2=0
 | 0,_,_,_,r,_,h=>by simp[Gz.FO]at h
 | f+1,[],M,all,r,ha,h=>by
  unfold Gz.FO at h;split at h
  ·cases h
  ·cases h;exact⟨nX,ha⟩
 | f+1,s::j,M,all,r,ha,h=>by
  unfold Gz.FO at h;split at h
  ·cases h
  ·refine UE f _ _ _ r (fun x l=>?_) h
   rcases mA.1 l with i|i
   ·exact ha x i
   ·exact SJ i
theorem Mn{g:Gz}:∀(k:Nat) (l:List (List It)),g.EF k=oM l->l.length=k/\∀r∈l,r.length<=300/\∀x∈r,x.1<=g.R.length/\x.2<=9000
 | 0,l,h=>by
  unfold Gz.EF at h;cases h
  exact⟨rfl,fun r j=>by cases j⟩
 | k+1,l,h=>by
  unfold Gz.EF at h;cases t:g.EF k with
  | none=>rw[t]at h;cases h
  | some P=>
   rw[t]at h;obtain⟨C,I⟩:=Mn k P t;simp only at h;split at h
   ·cases h
    refine⟨by simp[C],fun r j=>?_⟩;rcases mA.1 j with i|i
    ·exact I r i
    ·rw[mS.1 i]
     exact⟨oA,fun x o=>by cases o⟩
   ·cases p:g.FO Gz.L4 [k] [k] [] with
    | none=>rw[p]at h;cases h
    | some R=>
     rw[p]at h;cases h
     have J:=UE _ _ _ _ _ (fun x o=>by cases o) p;refine⟨by simp[C],fun r j=>?_⟩;rcases mA.1 j with i|i
     ·exact I r i
     ·rw[mS.1 i]
      exact⟨J.1,fun x o=>by have:=J.2 x o;omega⟩
theorem aQ{g:Gz}{k:Nat}{l:List (List It)}(h:g.EF (k+1)=oM l)(t:g.nt<k):∃i r,g.EF k=oM i/\g.FO Gz.L4 [k] [k] []=oM r/\l=i++[r]:=by
 unfold Gz.EF at h;cases o:g.EF k with
 | none=>rw[o]at h;cases h
 | some i=>
  rw[o]at h;simp only at h;rw[if_neg nX]at h;cases j:g.FO Gz.L4 [k] [k] [] with
  | none=>rw[j]at h;cases h
  | some p=>
   rw[j]at h;cases h
   exact⟨i,p,rfl,rfl,rfl⟩
theorem TS{g:Gz}:∀k,k<=g.nt+1->g.EF k=oM (List.replicate k [])
 | 0,_=>rfl
 | k+1,i=>by unfold Gz.EF;rw[TS k nX];simp only;rw[if_pos nX,List.replicate_succ']
theorem Uz{g:Gz}:∀(n k:Nat) (l:List (List It)),k<=n->g.EF n=oM l->g.EF k=oM (l.take k)
 | 0,k,l,o,h=>by
  obtain rfl:k=0:=by omega
  simp[Gz.EF]
 | n+1,k,l,o,h=>by
  by_cases p:k=n+1
  ·subst p
   have:=(Mn _ _ h).1;rw[Da nX];exact h
  ·have h0:=h
   unfold Gz.EF at h;cases i:g.EF n with
   | none=>rw[i]at h;cases h
   | some j=>
    rw[i]at h;have C:=(Mn _ _ i).1;have t:=Uz n k j nX i;have:∃r,l=j++[r]:=by
     simp only at h;split at h
     ·cases h;exact⟨_,rfl⟩
     ·split at h
      ·cases h
      ·cases h;exact⟨_,rfl⟩
    obtain⟨r,rfl⟩:=this;rw[t,List.take_append_of_le_length nX]
structure AV where
 s:Nat
 set:Nat
 self:Bool
structure Edge where
 dst:Nat
 at_:Nat
 set:Nat
 self:Bool
def CH(xs:Bool)(i:Nat)(c:AV)(own:Bool)(t:Nat×Bool):AV×Bool:=
 if xs=false/\i=0 then(c,false)
 else if t.2=false then(⟨c.s,c.set|||t.1,c.self⟩,(c.set|||t.1) != c.set)
 else if xs=true/\c.self=false then(⟨c.s,(c.set|||t.1)|||(if own then c.set|||t.1 else i),true⟩,true)
 else(⟨c.s,(c.set|||t.1)|||(if own then c.set|||t.1 else i),c.self⟩,(((c.set|||t.1)|||(if own then c.set|||t.1 else i)) != (c.set|||t.1))||((c.set|||t.1) != c.set))
namespace Gz
def DB(g:Gz)(E:Nat)(C:List Nat)(k:Nat):List (Nat×Bool):=(List.range (g.right k).length).map fun d=>Dr E C ((g.right k).drop (d+1)) 0
def GG(T:List (List (Nat×Bool)))(k d:Nat):Nat×Bool:=(T.getD k []).getD d (0,false)
def FH(g:Gz)(T:List (List (Nat×Bool)))(i:Nat)(xs:Bool)(p:List AV×List Nat)(k:Nat):List AV×List Nat:=
 match g.right k with
 | []=>p
 | y::_=>if g.BW y=false then p else
  match p.1.findIdx? (fun c=>c.s==y) with
  | some j=>(p.1.set j (CH xs (p.1.getD i ⟨0,0,false⟩).set (p.1.getD j ⟨0,0,false⟩) (i==j) (GG T k 0)).1,if (CH xs (p.1.getD i ⟨0,0,false⟩).set (p.1.getD j ⟨0,0,false⟩) (i==j) (GG T k 0)).2 then p.2++[j] else p.2)
  | none=>(p.1++[(CH xs (p.1.getD i ⟨0,0,false⟩).set ⟨y,0,false⟩ false (GG T k 0)).1],p.2++[p.1.length])
def Hf(g:Gz)(T:List (List (Nat×Bool))):Nat->List AV->List Nat->Option (List AV)
 | 0,_,_=>oN
 | _+1,out,[]=>oM out
 | f+1,out,i::j=>if 10000<out.length+j.length then oN else
  Hf g T f ((g.CJ (out.getD i ⟨0,0,false⟩).s).foldl (g.FH T i (out.getD i ⟨0,0,false⟩).self) (out,j)).1 ((g.CJ (out.getD i ⟨0,0,false⟩).s).foldl (g.FH T i (out.getD i ⟨0,0,false⟩).self) (out,j)).2
def Rs:Nat:=1000
def J9(g:Gz)(T:List (List (Nat×Bool)))(s:Nat):Option (List AV):=Hf g T Rs [⟨s,0,true⟩] [0]
def Di(g:Gz)(T:List (List (Nat×Bool))):Nat->Option (List (List AV))
 | 0=>oM []
 | k+1=>match Di g T k with
  | none=>oN
  | some l=>if k<=g.nt then oM (l++[[]]) else match J9 g T k with
   | none=>oN
   | some r=>oM (l++[r])
def Ka(L:List (List It))(base:List Nat)(i:Nat)(x:It):Option Nat:=((L.getD i []).findIdx? (fun y=>x==y)).map (base.getD i 0+·)
def Hc(g:Gz)(L E:List (List It))(base:List Nat)(st:Nat)(x:It):Option Nat:=
 match (E.getD st []).find? (fun t=>t.1==g.next x) with
 | none=>oN
 | some t=>Ka L base t.2 (x.1,x.2+1)
abbrev Cw:=Nat×List It×List Edge
def Dg(n:Nat)(F:List It)(k:Nat):Nat×Nat×List It:=match F.find? (fun f=>f.1==k) with|some f=>(f.2,n,F)|none=>(n,n+1,F++[(k,n)])
def Ft(g:Gz)(L E:List (List It))(base:List Nat)(st at_ S:Nat)(self i:Bool):List Nat->Cw->Option Cw
 | [],q=>oM q
 | k::l,q=>
  match (g.right k).length with
  | 0=>Ft g L E base st at_ S self i l ((Dg q.1 q.2.1 k).2.1,(Dg q.1 q.2.1 k).2.2,if i then q.2.2 else q.2.2++[⟨(Dg q.1 q.2.1 k).1,at_,S,self⟩])
  | _+1=>match Hc g L E base st (k,0) with
   | none=>oN
   | some t=>Ft g L E base st at_ S self i l (q.1,q.2.1,if i then q.2.2 else q.2.2++[⟨t,at_,S,self⟩])
def Gc(g:Gz)(L E:List (List It))(base:List Nat)(st at_:Nat)(t:Nat×Bool):List AV->Cw->Option Cw
 | [],q=>oM q
 | c::l,q=>match Ft g L E base st at_ (if c.self then c.set|||t.1 else c.set) (c.self&&t.2) (!t.2&&t.1==0) (g.CJ c.s) q with
  | none=>oN
  | some i=>Gc g L E base st at_ t l i
def GK(g:Gz)(L E:List (List It))(base:List Nat)(T:List (List (Nat×Bool)))(j:List (List AV))(st at_:Nat)(x:It)(q:Cw):Option Cw:=
 if (g.right x.1).length<=x.2 then oM q else
 match Hc g L E base st x with
 | none=>oN
 | some i=>if g.BW (g.next x) then Gc g L E base st at_ (GG T x.1 x.2) (j.getD (g.next x) []) (q.1,q.2.1,q.2.2++[⟨i,at_,0,true⟩]) else oM (q.1,q.2.1,q.2.2++[⟨i,at_,0,true⟩])
def EJ(g:Gz)(L E:List (List It))(base:List Nat)(T:List (List (Nat×Bool)))(i:List (List AV))(st:Nat):List It->Nat->Cw->Option Cw
 | [],_,q=>oM q
 | x::l,at_,q=>match GK g L E base T i st at_ x q with
  | none=>oN
  | some j=>EJ g L E base T i st l (at_+1) j
def B0(g:Gz)(L E:List (List It))(base:List Nat)(T:List (List (Nat×Bool)))(o:List (List AV)):List (List It)->Nat->Nat×List (List It)×List Edge->Option (Nat×List (List It)×List Edge)
 | [],_,q=>oM q
 | K::l,j,q=>match EJ g L E base T o j K (base.getD j 0) (q.1,[],q.2.2) with
  | none=>oN
  | some i=>B0 g L E base T o l (j+1) (i.1,q.2.1++[i.2.1],i.2.2)
def Cf:List (List It)->Nat->List Nat
 | [],_=>[]
 | K::l,n=>n::Cf l (n+K.length)
def Fx:List Edge->List Nat->Bool->List Nat×Bool
 | [],A,m=>(A,m)
 | e::l,A,m=>
  if A.getD e.at_ 0=0 then Fx l A m else
  if e.self then Fx l (A.set e.dst ((A.getD e.dst 0|||e.set)|||(if e.dst=e.at_ then A.getD e.dst 0|||e.set else A.getD e.at_ 0))) ((((A.getD e.dst 0|||e.set)|||(if e.dst=e.at_ then A.getD e.dst 0|||e.set else A.getD e.at_ 0)) != (A.getD e.dst 0|||e.set))||(((A.getD e.dst 0|||e.set) != A.getD e.dst 0)||m))
  else Fx l (A.set e.dst (A.getD e.dst 0|||e.set)) (((A.getD e.dst 0|||e.set) != A.getD e.dst 0)||m)
def Hv(j:List Edge):Nat->List Nat->Option (List Nat)
 | 0,_=>oN
 | f+1,A=>match Fx j A false with
  | (i,true)=>Hv j f i
  | (i,false)=>oM i
def CU(g:Gz):List It->Nat->List It
 | [],_=>[]
 | x::l,b=>if x.2=(g.right x.1).length then(x.1,b)::CU g l (b+1) else CU g l (b+1)
def IA(g:Gz)(A:List Nat)(i:List It):List (Nat×Nat):=(List.range (g.R.length+1)).filterMap fun k=>(i.reverse.find? (fun p=>p.1==k)).map fun p=>(k,A.getD p.2 0)
def Ij(g:Gz)(A:List Nat):List (List It)->List Nat->List (List It)->List (List (Nat×Nat))
 | K::l,b::bs,F::i=>IA g A (CU g K b++F)::Ij g A l bs i
 | _,_,_=>[]
def Ia(g:Gz)(j:List It)(i:List (Nat×Nat))(t:Nat):List (Nat×Nat):=
 ((if 0<t then j.filter (fun x=>x.1==t) else[]).map fun x=>(1,x.2))
 ++ ((i.filter fun x=>x.1==g.R.length&&x.2.testBit t).map fun _=>(3,0))
 ++ ((i.filter fun x=>x.1 != g.R.length&&x.2.testBit t).map fun x=>(2,x.1))
end Gz
def force{i:Type}(n:Nat)(k:Nat->i):i:=Nat.rec (k 0) (fun m _=>k (m+1)) n
def force_eq{i:Type}(n:Nat)(k:Nat->i):force n k=k n:=by cases n<;>rfl
def F7(w N i:Nat):Nat:=(N >>> (w*i))%2 ^ w
def Jf(w N i S:Nat):Nat:=N|||(S <<< (w*i))
def Ii(w:Nat):List Edge->Nat->Bool->Nat×Bool
 | [],N,m=>(N,m)
 | e::l,N,m=>
  bif Nat.beq (F7 w N e.at_) 0 then Ii w l N m
  else force (Jf w N e.dst e.set) fun i=>bif e.self then force (Jf w i e.dst (F7 w i e.at_)) fun j=>
    bif Nat.beq (F7 w j e.dst) (F7 w N e.dst) then Ii w l j m else Ii w l j true
   else bif Nat.beq (F7 w i e.dst) (F7 w N e.dst) then Ii w l i m else Ii w l i true
def Ld(w:Nat)(j:List Edge):Nat->Nat->Option Nat
 | 0,_=>oN
 | f+1,N=>match Ii w j N false with
  | (i,true)=>Ld w j f i
  | (i,false)=>oM i
structure Pk(w:Nat)(A:List Nat)(N:Nat):Prop where
 bit:∀i,i<A.length->∀b,b<w->N.testBit (w*i+b)=(A.getD i 0).testBit b
 lt:∀x∈A,x<2 ^ w
variable{N w:Nat}{A:List Nat}
theorem Pk.Nj(h:Pk w A N)(i:Nat):A.getD i 0<2 ^ w:=by
 rw[dG];cases j:A[i]? with
 | none=>exact Nat.two_pow_pos w
 | some x=>exact h.lt x (mG j)
def LQ{S b:Nat}(h:S<2 ^ w)(i:w<=b):S.testBit b=false:=Nat.testBit_lt_two_pow (A0 h (Nat.pow_le_pow_right nY i))
def Pk.get(h:Pk w A N){i:Nat}(l:i<A.length):F7 w N i=A.getD i 0:=by
 apply Nat.eq_of_testBit_eq;intro b;unfold F7;rw[Nat.testBit_mod_two_pow,Nat.testBit_shiftRight];by_cases j:b<w
 ·rw[decide_eq_true j,Bool.true_and,h.bit i l b j]
 ·rw[decide_eq_false j,Bool.false_and,LQ (h.Nj i) nX]
def Pk.or(h:Pk w A N){i S:Nat}(I:i<A.length)(p:S<2 ^ w):Pk w (A.set i (A.getD i 0|||S)) (Jf w N i S):=by
 refine⟨fun k t b C=>?_,fun x J=>?_⟩
 ·rw[List.length_set]at t
  unfold Jf;rw[Nat.testBit_or,Nat.testBit_shiftLeft,h.bit k t b C];by_cases o:i=k
  ·subst o
   have e:(A.set i (A.getD i 0|||S)).getD i 0=A.getD i 0|||S:=by rw[dG,tG I];rfl
   rw[e,Nat.testBit_or,decide_eq_true (by omega:w*i+b>=w*i),Bool.true_and,show w*i+b-w*i=b by omega]
  ·have e:(A.set i (A.getD i 0|||S)).getD k 0=A.getD k 0:=by rw[dG,uG o,<-dG]
   rw[e];have:(decide (w*k+b>=w*i)&&S.testBit (w*k+b-w*i))=false:=by
    rcases Nat.lt_or_gt_of_ne o with j|j
    ·have l:w*(i+1)<=w*k:=Nat.mul_le_mul_left w j
     rw[Nat.mul_add,Nat.mul_one]at l;rw[LQ p nX,Bool.and_false]
    ·have l:w*(k+1)<=w*i:=Nat.mul_le_mul_left w j
     rw[Nat.mul_add,Nat.mul_one]at l;rw[decide_eq_false nX,Bool.false_and]
   rw[this,Bool.or_false]
 ·rcases List.mem_or_eq_of_mem_set J with j|rfl
  ·exact h.lt x j
  ·exact Nat.or_lt_two_pow (h.Nj i) p
def mU(a s t:Nat):((((a|||s)|||t) != (a|||s))||((a|||s) != a))=!(Nat.beq ((a|||s)|||t) a):=by
 by_cases h:(a|||s)|||t=a
 ·have l:a|||s=a:=by
   apply Nat.eq_of_testBit_eq;intro b;have:=congrArg (·.testBit b) h;simp only[Nat.testBit_or]at this ⊢;revert this;cases a.testBit b<;>cases s.testBit b<;>simp
  have i:Nat.beq ((a|||s)|||t) a=true:=by rw[Nat.beq_eq];exact h
  rw[i,h,l];simp
 ·have i:Nat.beq ((a|||s)|||t) a=false:=by
   cases o:Nat.beq ((a|||s)|||t) a with
   | false=>rfl
   | true=>exact absurd (Nat.eq_of_beq_eq_true o) h
  rw[i];simp only[Bool.not_false,Bool.or_eq_true,bne_iff_ne];by_cases j:(a|||s)|||t=a|||s
  ·exact .inr (fun e=>h (j.trans e))
  ·exact .inl j
theorem jB(a s:Nat):((a|||s) != a)=!(Nat.beq (a|||s) a):=by
 by_cases h:a|||s=a
 ·have:Nat.beq (a|||s) a=true:=by rw[Nat.beq_eq];exact h
  rw[this];simp[h]
 ·have:Nat.beq (a|||s) a=false:=by
   cases i:Nat.beq (a|||s) a with
   | false=>rfl
   | true=>exact absurd (Nat.eq_of_beq_eq_true i) h
  rw[this];simp[h]
def N6(w n:Nat)(e:Edge):Prop:=e.dst<n/\e.at_<n/\e.set<2 ^ w
theorem KY{w:Nat}:∀(l:List Edge) (A:List Nat) (N:Nat) (m:Bool),Pk w A N->(∀e∈l,N6 w A.length e)->∃A',Gz.Fx l A m=(A',(Ii w l N m).2)/\Pk w A' (Ii w l N m).1/\A'.length=A.length
 | [],A,N,m,h,_=>⟨A,rfl,h,rfl⟩
 | e::l,A,N,m,h,U=>by
  obtain⟨i,P,R⟩:=U e oA;have t:∀x∈l,N6 w A.length x:=fun x hx=>U x (by simp[hx])
  unfold Gz.Fx Ii;rw[h.get P];by_cases h0:A.getD e.at_ 0=0
  ·rw[if_pos h0,h0]
   exact KY l A N m h t
  ·rw[if_neg h0]
   have a0:Nat.beq (A.getD e.at_ 0) 0=false:=by
    cases J:Nat.beq (A.getD e.at_ 0) 0 with
    | false=>rfl
    | true=>exact absurd (Nat.eq_of_beq_eq_true J) h0
   rw[a0,cond_false,force_eq];have C:=h.or i R;have g1:F7 w (Jf w N e.dst e.set) e.dst=A.getD e.dst 0|||e.set:=by rw[C.get (by simpa using i),dG,tG i];rfl
   cases hs:e.self with
   | false=>
    simp only[Bool.false_eq_true,if_false,cond_false];rw[g1,h.get i,jB];cases J:Nat.beq (A.getD e.dst 0|||e.set) (A.getD e.dst 0) with
    | true=>simp only[Bool.not_true,Bool.false_or,cond_true];obtain⟨A',j,o,p⟩:=KY l _ _ m C (by simpa using t);exact⟨A',j,o,by simpa using p⟩
    | false=>simp only[Bool.not_false,Bool.true_or,cond_false];obtain⟨A',j,o,p⟩:=KY l _ _ true C (by simpa using t);exact⟨A',j,o,by simpa using p⟩
   | true=>
    simp only[if_true,cond_true,force_eq];have ga:F7 w (Jf w N e.dst e.set) e.at_=if e.dst=e.at_ then A.getD e.dst 0|||e.set else A.getD e.at_ 0:=by
     rw[C.get (by simpa using P),dG];split
     ·rename_i q;rw[<-q,tG i];rfl
     ·rename_i q;rw[uG q,<-dG]
    rw[ga];have a1:(if e.dst=e.at_ then A.getD e.dst 0|||e.set else A.getD e.at_ 0)<2 ^ w:=by
     split
     ·exact Nat.or_lt_two_pow (h.Nj _) R
     ·exact h.Nj _
    generalize (if e.dst=e.at_ then A.getD e.dst 0|||e.set else A.getD e.at_ 0)=T at *;have I:=C.or (i:=e.dst) (S:=T) (by simpa using i) a1;have e1:(A.set e.dst (A.getD e.dst 0|||e.set)).getD e.dst 0=A.getD e.dst 0|||e.set:=by rw[dG,tG i];rfl
    rw[e1,List.set_set]at I;have g2:F7 w (Jf w (Jf w N e.dst e.set) e.dst T) e.dst=(A.getD e.dst 0|||e.set)|||T:=by rw[I.get (by simpa using i),dG,tG i];rfl
    rw[g2,h.get i,<-Bool.or_assoc,mU];cases J:Nat.beq ((A.getD e.dst 0|||e.set)|||T) (A.getD e.dst 0) with
    | true=>simp only[Bool.not_true,Bool.false_or,cond_true];obtain⟨A',j,o,p⟩:=KY l _ _ m I (by simpa using t);exact⟨A',j,o,by simpa using p⟩
    | false=>simp only[Bool.not_false,Bool.true_or,cond_false];obtain⟨A',j,o,p⟩:=KY l _ _ true I (by simpa using t);exact⟨A',j,o,by simpa using p⟩
def Pk.list(h:Pk w A N):A=(List.range A.length).map (F7 w N):=by
 apply List.ext_getElem?;intro i;by_cases j:i<A.length
 ·rw[pG,List.getElem?_range j,Option.map_some,h.get j,dG,eG j];rfl
 ·rw[nG nX,nG oC]
theorem Qm{w:Nat}{j:List Edge}:∀(f:Nat) (A:List Nat) (N i:Nat),Pk w A N->(∀e∈j,N6 w A.length e)->Ld w j f N=oM i->Gz.Hv j f A=oM ((List.range A.length).map (F7 w i))
 | 0,A,N,i,_,_,h=>by simp[Ld]at h
 | f+1,A,N,i,J,p,h=>by
  obtain⟨t,I,o,l⟩:=KY j A N false J p;unfold Ld at h;unfold Gz.Hv;rw[I];generalize Ii w j N false=q at *;obtain⟨C,m⟩:=q;cases m with
  | true=>simp only at h ⊢;have:=Qm f t C i o (by rw[l];exact p) h;rw[l]at this;exact this
  | false=>
   simp only at h ⊢;cases h
   rw[<-l];exact congrArg oM o.list
