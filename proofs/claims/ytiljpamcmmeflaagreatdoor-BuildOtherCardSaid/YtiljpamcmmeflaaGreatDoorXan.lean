/- . -/
import Derived.Test.YtiljpamcmmeflaaGreatDoorXam
set_option linter.all false
set_option maxRecDepth 100000
set_option maxHeartbeats 16000000
namespace Go.Proofs.YtiljpamcmmeflaaGreatDoor
open Go.RowKit
open Option renaming some→nJ,none→nK
namespace Gz
def IW(g:Gz)(p:List Nat×List Nat)(x:It):List Nat×List Nat:=if g.BK (g.next x)=true/\g.next x ∉ p.2 then(p.1++[g.next x],g.next x::p.2) else p
def FO(g:Gz):Nat->List Nat->List Nat->List It->Option (List It)
 | 0,_,_,_=>nK
 | _+1,[],_,all=>if 300<all.length then nK else nJ all
 | f+1,s::i,M,all=>if 10000<i.length+M.length+all.length then nK else FO g f ((g.Eg s).foldl g.IW (i,M)).1 ((g.Eg s).foldl g.IW (i,M)).2 (all++g.Eg s)
def Lq:Nat:=1000
def Ey(g:Gz):Nat->Option (List (List It))
 | 0=>nJ []
 | k+1=>match Ey g k with
  | none=>nK
  | some l=>if k<=g.nt then nJ (l++[[]]) else match FO g Lq [k] [k] [] with
   | none=>nK
   | some r=>nJ (l++[r])
def Kc(g:Gz):Option (List (List It)):=Ey g (g.top+1)
def FD:List (List It)->Nat->List (List It)->List It->List (List It)×List It
 | [],_,L,t=>(L,t)
 | k::r,s,L,t=>if k.length=0 then FD r (s+1) L t else FD r (s+1) (Er L k).2 (t++[(s,(Er L k).1)])
def Jd(g:Gz)(bg:List (List It)):Nat->Nat->List (List It)->List (List It)->Option (List (List It)×List (List It))
 | 0,_,_,_=>nK
 | f+1,i,L,E=>match L[i]? with
  | none=>nJ (L,E)
  | some K=>if 300<K.length then nK else
   if 2000<(FD (g.GK bg K) 0 L []).1.length then nK else Jd g bg f (i+1) (FD (g.GK bg K) 0 L []).1 (E++[(FD (g.GK bg K) 0 L []).2])
def J8(g:Gz)(f:Nat):Option (List (List It)×List (List It)):=match g.Kc with
 | none=>nK
 | some bg=>Jd g bg f 0 [[(g.R.length,0)]] []
end Gz
def Xc(g:Gz)(s:Nat):(g.Eg s).length<=g.R.length:=by unfold Gz.Eg;rw[lM];exact Lh g s
def Sr{g:Gz}{s:Nat}{x:It}(h:x∈g.Eg s):x.1<g.R.length/\x.2=0:=by unfold Gz.Eg at h;obtain⟨k,i,rfl⟩:=List.mem_map.1 h;unfold Gz.CF at i;have:=List.mem_range.1 (List.mem_filter.1 i).1;exact⟨this,rfl⟩
theorem Vc{g:Gz}:∀(f:Nat) (j M:List Nat) (all r:List It),(∀x∈all,x.1<g.R.length/\x.2=0)->g.FO f j M all=nJ r->r.length<=300/\∀x∈r,x.1<g.R.length/\x.2=0
 | 0,_,_,_,r,_,h=>by simp[Gz.FO]at h
 | f+1,[],M,all,r,ha,h=>by
  unfold Gz.FO at h;split at h
  ·cases h
  ·cases h;exact⟨mR,ha⟩
 | f+1,s::j,M,all,r,ha,h=>by
  unfold Gz.FO at h;split at h
  ·cases h
  ·refine Vc f _ _ _ r (fun x l=>?_) h
   rcases mA.1 l with i|i
   ·exact ha x i
   ·exact Sr i
theorem L0{g:Gz}:∀(k:Nat) (l:List (List It)),g.Ey k=nJ l->l.length=k/\∀r∈l,r.length<=300/\∀x∈r,x.1<=g.R.length/\x.2<=9000
 | 0,l,h=>by
  unfold Gz.Ey at h;cases h
  exact⟨rfl,fun r j=>by cases j⟩
 | k+1,l,h=>by
  unfold Gz.Ey at h;cases t:g.Ey k with
  | none=>rw[t]at h;cases h
  | some P=>
   rw[t]at h;obtain⟨C,I⟩:=L0 k P t;simp only at h;split at h
   ·cases h
    refine⟨by simp[C],fun r j=>?_⟩;rcases mA.1 j with i|i
    ·exact I r i
    ·rw[mS.1 i]
     exact⟨mV,fun x o=>by cases o⟩
   ·cases p:g.FO Gz.Lq [k] [k] [] with
    | none=>rw[p]at h;cases h
    | some R=>
     rw[p]at h;cases h
     have J:=Vc _ _ _ _ _ (fun x o=>by cases o) p;refine⟨by simp[C],fun r j=>?_⟩;rcases mA.1 j with i|i
     ·exact I r i
     ·rw[mS.1 i]
      exact⟨J.1,fun x o=>by have:=J.2 x o;omega⟩
theorem WD{g:Gz}{k:Nat}{l:List (List It)}(h:g.Ey (k+1)=nJ l)(t:g.nt<k):∃i r,g.Ey k=nJ i/\g.FO Gz.Lq [k] [k] []=nJ r/\l=i++[r]:=by
 unfold Gz.Ey at h;cases o:g.Ey k with
 | none=>rw[o]at h;cases h
 | some i=>
  rw[o]at h;simp only at h;rw[if_neg mR]at h;cases j:g.FO Gz.Lq [k] [k] [] with
  | none=>rw[j]at h;cases h
  | some p=>
   rw[j]at h;cases h
   exact⟨i,p,rfl,rfl,rfl⟩
theorem Q9{g:Gz}:∀k,k<=g.nt+1->g.Ey k=nJ (List.replicate k [])
 | 0,_=>rfl
 | k+1,i=>by unfold Gz.Ey;rw[Q9 k mR];simp only;rw[if_pos mR,List.replicate_succ']
theorem TO{g:Gz}:∀(n k:Nat) (l:List (List It)),k<=n->g.Ey n=nJ l->g.Ey k=nJ (l.take k)
 | 0,k,l,o,h=>by
  obtain rfl:k=0:=by omega
  simp[Gz.Ey]
 | n+1,k,l,o,h=>by
  by_cases p:k=n+1
  ·subst p
   have:=(L0 _ _ h).1;rw[Dd mR];exact h
  ·have h0:=h
   unfold Gz.Ey at h;cases i:g.Ey n with
   | none=>rw[i]at h;cases h
   | some j=>
    rw[i]at h;have C:=(L0 _ _ i).1;have t:=TO n k j mR i;have:∃r,l=j++[r]:=by
     simp only at h;split at h
     ·cases h;exact⟨_,rfl⟩
     ·split at h
      ·cases h
      ·cases h;exact⟨_,rfl⟩
    obtain⟨r,rfl⟩:=this;rw[t,List.take_append_of_le_length mR]
structure AZ where
 s:Nat
 set:Nat
 self:Bool
structure Edge where
 dst:Nat
 at_:Nat
 set:Nat
 self:Bool
def CD(xs:Bool)(i:Nat)(c:AZ)(own:Bool)(t:Nat×Bool):AZ×Bool:=
 if xs=false/\i=0 then(c,false)
 else if t.2=false then(⟨c.s,c.set|||t.1,c.self⟩,(c.set|||t.1) != c.set)
 else if xs=true/\c.self=false then(⟨c.s,(c.set|||t.1)|||(if own then c.set|||t.1 else i),true⟩,true)
 else(⟨c.s,(c.set|||t.1)|||(if own then c.set|||t.1 else i),c.self⟩,(((c.set|||t.1)|||(if own then c.set|||t.1 else i)) != (c.set|||t.1))||((c.set|||t.1) != c.set))
namespace Gz
def DD(g:Gz)(E:Nat)(C:List Nat)(k:Nat):List (Nat×Bool):=(List.range (g.right k).length).map fun d=>Dm E C ((g.right k).drop (d+1)) 0
def Gp(T:List (List (Nat×Bool)))(k d:Nat):Nat×Bool:=(T.getD k []).getD d (0,false)
def FL(g:Gz)(T:List (List (Nat×Bool)))(i:Nat)(xs:Bool)(p:List AZ×List Nat)(k:Nat):List AZ×List Nat:=
 match g.right k with
 | []=>p
 | y::_=>if g.BK y=false then p else
  match p.1.findIdx? (fun c=>c.s==y) with
  | some j=>(p.1.set j (CD xs (p.1.getD i ⟨0,0,false⟩).set (p.1.getD j ⟨0,0,false⟩) (i==j) (Gp T k 0)).1,if (CD xs (p.1.getD i ⟨0,0,false⟩).set (p.1.getD j ⟨0,0,false⟩) (i==j) (Gp T k 0)).2 then p.2++[j] else p.2)
  | none=>(p.1++[(CD xs (p.1.getD i ⟨0,0,false⟩).set ⟨y,0,false⟩ false (Gp T k 0)).1],p.2++[p.1.length])
def Ha(g:Gz)(T:List (List (Nat×Bool))):Nat->List AZ->List Nat->Option (List AZ)
 | 0,_,_=>nK
 | _+1,out,[]=>nJ out
 | f+1,out,i::j=>if 10000<out.length+j.length then nK else
  Ha g T f ((g.CF (out.getD i ⟨0,0,false⟩).s).foldl (g.FL T i (out.getD i ⟨0,0,false⟩).self) (out,j)).1 ((g.CF (out.getD i ⟨0,0,false⟩).s).foldl (g.FL T i (out.getD i ⟨0,0,false⟩).self) (out,j)).2
def Qn:Nat:=1000
def JB(g:Gz)(T:List (List (Nat×Bool)))(s:Nat):Option (List AZ):=Ha g T Qn [⟨s,0,true⟩] [0]
def Db(g:Gz)(T:List (List (Nat×Bool))):Nat->Option (List (List AZ))
 | 0=>nJ []
 | k+1=>match Db g T k with
  | none=>nK
  | some l=>if k<=g.nt then nJ (l++[[]]) else match JB g T k with
   | none=>nK
   | some r=>nJ (l++[r])
def JV(L:List (List It))(base:List Nat)(i:Nat)(x:It):Option Nat:=((L.getD i []).findIdx? (fun y=>x==y)).map (base.getD i 0+·)
def Hp(g:Gz)(L E:List (List It))(base:List Nat)(st:Nat)(x:It):Option Nat:=
 match (E.getD st []).find? (fun t=>t.1==g.next x) with
 | none=>nK
 | some t=>JV L base t.2 (x.1,x.2+1)
abbrev Cr:=Nat×List It×List Edge
def Df(n:Nat)(F:List It)(k:Nat):Nat×Nat×List It:=match F.find? (fun f=>f.1==k) with|some f=>(f.2,n,F)|none=>(n,n+1,F++[(k,n)])
def Fx(g:Gz)(L E:List (List It))(base:List Nat)(st at_ S:Nat)(self i:Bool):List Nat->Cr->Option Cr
 | [],q=>nJ q
 | k::l,q=>
  match (g.right k).length with
  | 0=>Fx g L E base st at_ S self i l ((Df q.1 q.2.1 k).2.1,(Df q.1 q.2.1 k).2.2,if i then q.2.2 else q.2.2++[⟨(Df q.1 q.2.1 k).1,at_,S,self⟩])
  | _+1=>match Hp g L E base st (k,0) with
   | none=>nK
   | some t=>Fx g L E base st at_ S self i l (q.1,q.2.1,if i then q.2.2 else q.2.2++[⟨t,at_,S,self⟩])
def F9(g:Gz)(L E:List (List It))(base:List Nat)(st at_:Nat)(t:Nat×Bool):List AZ->Cr->Option Cr
 | [],q=>nJ q
 | c::l,q=>match Fx g L E base st at_ (if c.self then c.set|||t.1 else c.set) (c.self&&t.2) (!t.2&&t.1==0) (g.CF c.s) q with
  | none=>nK
  | some i=>F9 g L E base st at_ t l i
def GJ(g:Gz)(L E:List (List It))(base:List Nat)(T:List (List (Nat×Bool)))(j:List (List AZ))(st at_:Nat)(x:It)(q:Cr):Option Cr:=
 if (g.right x.1).length<=x.2 then nJ q else
 match Hp g L E base st x with
 | none=>nK
 | some i=>if g.BK (g.next x) then F9 g L E base st at_ (Gp T x.1 x.2) (j.getD (g.next x) []) (q.1,q.2.1,q.2.2++[⟨i,at_,0,true⟩]) else nJ (q.1,q.2.1,q.2.2++[⟨i,at_,0,true⟩])
def EI(g:Gz)(L E:List (List It))(base:List Nat)(T:List (List (Nat×Bool)))(i:List (List AZ))(st:Nat):List It->Nat->Cr->Option Cr
 | [],_,q=>nJ q
 | x::l,at_,q=>match GJ g L E base T i st at_ x q with
  | none=>nK
  | some j=>EI g L E base T i st l (at_+1) j
def B4(g:Gz)(L E:List (List It))(base:List Nat)(T:List (List (Nat×Bool)))(o:List (List AZ)):List (List It)->Nat->Nat×List (List It)×List Edge->Option (Nat×List (List It)×List Edge)
 | [],_,q=>nJ q
 | K::l,j,q=>match EI g L E base T o j K (base.getD j 0) (q.1,[],q.2.2) with
  | none=>nK
  | some i=>B4 g L E base T o l (j+1) (i.1,q.2.1++[i.2.1],i.2.2)
def Ca:List (List It)->Nat->List Nat
 | [],_=>[]
 | K::l,n=>n::Ca l (n+K.length)
def Fz:List Edge->List Nat->Bool->List Nat×Bool
 | [],A,m=>(A,m)
 | e::l,A,m=>
  if A.getD e.at_ 0=0 then Fz l A m else
  if e.self then Fz l (A.set e.dst ((A.getD e.dst 0|||e.set)|||(if e.dst=e.at_ then A.getD e.dst 0|||e.set else A.getD e.at_ 0))) ((((A.getD e.dst 0|||e.set)|||(if e.dst=e.at_ then A.getD e.dst 0|||e.set else A.getD e.at_ 0)) != (A.getD e.dst 0|||e.set))||(((A.getD e.dst 0|||e.set) != A.getD e.dst 0)||m))
  else Fz l (A.set e.dst (A.getD e.dst 0|||e.set)) (((A.getD e.dst 0|||e.set) != A.getD e.dst 0)||m)
def Hh(j:List Edge):Nat->List Nat->Option (List Nat)
 | 0,_=>nK
 | f+1,A=>match Fz j A false with
  | (i,true)=>Hh j f i
  | (i,false)=>nJ i
def CJ(g:Gz):List It->Nat->List It
 | [],_=>[]
 | x::l,b=>if x.2=(g.right x.1).length then(x.1,b)::CJ g l (b+1) else CJ g l (b+1)
def II(g:Gz)(A:List Nat)(i:List It):List (Nat×Nat):=(List.range (g.R.length+1)).filterMap fun k=>(i.reverse.find? (fun p=>p.1==k)).map fun p=>(k,A.getD p.2 0)
def Hz(g:Gz)(A:List Nat):List (List It)->List Nat->List (List It)->List (List (Nat×Nat))
 | K::l,b::bs,F::i=>II g A (CJ g K b++F)::Hz g A l bs i
 | _,_,_=>[]
def JR(g:Gz)(tr:List It)(i:List (Nat×Nat))(t:Nat):List (Nat×Nat):=
 ((if 0<t then tr.filter (fun x=>x.1==t) else[]).map fun x=>(1,x.2))
 ++ ((i.filter fun x=>x.1==g.R.length&&x.2.testBit t).map fun _=>(3,0))
 ++ ((i.filter fun x=>x.1 != g.R.length&&x.2.testBit t).map fun x=>(2,x.1))
end Gz
def force{i:Type}(n:Nat)(k:Nat->i):i:=Nat.rec (k 0) (fun m _=>k (m+1)) n
def force_eq{i:Type}(n:Nat)(k:Nat->i):force n k=k n:=by cases n<;>rfl
def FU(w N i:Nat):Nat:=(N >>> (w*i))%2 ^ w
def Jn(w N i S:Nat):Nat:=N|||(S <<< (w*i))
def Ij(w:Nat):List Edge->Nat->Bool->Nat×Bool
 | [],N,m=>(N,m)
 | e::l,N,m=>
  bif Nat.beq (FU w N e.at_) 0 then Ij w l N m
  else force (Jn w N e.dst e.set) fun i=>bif e.self then force (Jn w i e.dst (FU w i e.at_)) fun j=>
    bif Nat.beq (FU w j e.dst) (FU w N e.dst) then Ij w l j m else Ij w l j true
   else bif Nat.beq (FU w i e.dst) (FU w N e.dst) then Ij w l i m else Ij w l i true
def KZ(w:Nat)(j:List Edge):Nat->Nat->Option Nat
 | 0,_=>nK
 | f+1,N=>match Ij w j N false with
  | (i,true)=>KZ w j f i
  | (i,false)=>nJ i
structure Pk(w:Nat)(A:List Nat)(N:Nat):Prop where
 bit:∀i,i<A.length->∀b,b<w->N.testBit (w*i+b)=(A.getD i 0).testBit b
 lt:∀x∈A,x<2 ^ w
variable{N w:Nat}{A:List Nat}
theorem Pk.L6(h:Pk w A N)(i:Nat):A.getD i 0<2 ^ w:=by
 rw[dG];cases j:A[i]? with
 | none=>exact Nat.two_pow_pos w
 | some x=>exact h.lt x (mG j)
def Lm{S b:Nat}(h:S<2 ^ w)(i:w<=b):S.testBit b=false:=Nat.testBit_lt_two_pow (AK h (Nat.pow_le_pow_right mT i))
def Pk.get(h:Pk w A N){i:Nat}(l:i<A.length):FU w N i=A.getD i 0:=by
 apply Nat.eq_of_testBit_eq;intro b;unfold FU;rw[Nat.testBit_mod_two_pow,Nat.testBit_shiftRight];by_cases j:b<w
 ·rw[decide_eq_true j,Bool.true_and,h.bit i l b j]
 ·rw[decide_eq_false j,Bool.false_and,Lm (h.L6 i) mR]
def Pk.or(h:Pk w A N){i S:Nat}(I:i<A.length)(p:S<2 ^ w):Pk w (A.set i (A.getD i 0|||S)) (Jn w N i S):=by
 refine⟨fun k t b C=>?_,fun x J=>?_⟩
 ·rw[List.length_set]at t
  unfold Jn;rw[Nat.testBit_or,Nat.testBit_shiftLeft,h.bit k t b C];by_cases o:i=k
  ·subst o
   have e:(A.set i (A.getD i 0|||S)).getD i 0=A.getD i 0|||S:=by rw[dG,tG I];rfl
   rw[e,Nat.testBit_or,decide_eq_true (by omega:w*i+b>=w*i),Bool.true_and,show w*i+b-w*i=b by omega]
  ·have e:(A.set i (A.getD i 0|||S)).getD k 0=A.getD k 0:=by rw[dG,uG o,<-dG]
   rw[e];have:(decide (w*k+b>=w*i)&&S.testBit (w*k+b-w*i))=false:=by
    rcases Nat.lt_or_gt_of_ne o with j|j
    ·have l:w*(i+1)<=w*k:=Nat.mul_le_mul_left w j
     rw[Nat.mul_add,Nat.mul_one]at l;rw[Lm p mR,Bool.and_false]
    ·have l:w*(k+1)<=w*i:=Nat.mul_le_mul_left w j
     rw[Nat.mul_add,Nat.mul_one]at l;rw[decide_eq_false mR,Bool.false_and]
   rw[this,Bool.or_false]
 ·rcases List.mem_or_eq_of_mem_set J with j|rfl
  ·exact h.lt x j
  ·exact Nat.or_lt_two_pow (h.L6 i) p
def mw(a s t:Nat):((((a|||s)|||t) != (a|||s))||((a|||s) != a))=!(Nat.beq ((a|||s)|||t) a):=by
 by_cases h:(a|||s)|||t=a
 ·have l:a|||s=a:=by
   apply Nat.eq_of_testBit_eq;intro b;have:=congrArg (·.testBit b) h;simp only[Nat.testBit_or]at this ⊢;revert this;cases a.testBit b<;>cases s.testBit b<;>simp
  have i:Nat.beq ((a|||s)|||t) a=true:=by rw[Nat.beq_eq];exact h
  rw[i,h,l];simp
 ·have i:Nat.beq ((a|||s)|||t) a=false:=by
   cases o:Nat.beq ((a|||s)|||t) a with
   | false=>rfl
   | true=>exact absurd (Nat.eq_of_beq_eq_true o) h
  rw[i];simp only[Bool.not_false,Bool.or_eq_true,bne_iff_ne];by_cases j:(a|||s)|||t=a|||s
  ·exact .inr (fun e=>h (j.trans e))
  ·exact .inl j
theorem fX(a s:Nat):((a|||s) != a)=!(Nat.beq (a|||s) a):=by
 by_cases h:a|||s=a
 ·have:Nat.beq (a|||s) a=true:=by rw[Nat.beq_eq];exact h
  rw[this];simp[h]
 ·have:Nat.beq (a|||s) a=false:=by
   cases i:Nat.beq (a|||s) a with
   | false=>rfl
   | true=>exact absurd (Nat.eq_of_beq_eq_true i) h
  rw[this];simp[h]
def NB(w n:Nat)(e:Edge):Prop:=e.dst<n/\e.at_<n/\e.set<2 ^ w
theorem Ku{w:Nat}:∀(l:List Edge) (A:List Nat) (N:Nat) (m:Bool),Pk w A N->(∀e∈l,NB w A.length e)->∃A',Gz.Fz l A m=(A',(Ij w l N m).2)/\Pk w A' (Ij w l N m).1/\A'.length=A.length
 | [],A,N,m,h,_=>⟨A,rfl,h,rfl⟩
 | e::l,A,N,m,h,U=>by
  obtain⟨i,P,R⟩:=U e mV;have t:∀x∈l,NB w A.length x:=fun x hx=>U x (by simp[hx])
  unfold Gz.Fz Ij;rw[h.get P];by_cases h0:A.getD e.at_ 0=0
  ·rw[if_pos h0,h0]
   exact Ku l A N m h t
  ·rw[if_neg h0]
   have a0:Nat.beq (A.getD e.at_ 0) 0=false:=by
    cases J:Nat.beq (A.getD e.at_ 0) 0 with
    | false=>rfl
    | true=>exact absurd (Nat.eq_of_beq_eq_true J) h0
   rw[a0,cond_false,force_eq];have C:=h.or i R;have g1:FU w (Jn w N e.dst e.set) e.dst=A.getD e.dst 0|||e.set:=by rw[C.get (by simpa using i),dG,tG i];rfl
   cases hs:e.self with
   | false=>
    simp only[Bool.false_eq_true,if_false,cond_false];rw[g1,h.get i,fX];cases J:Nat.beq (A.getD e.dst 0|||e.set) (A.getD e.dst 0) with
    | true=>simp only[Bool.not_true,Bool.false_or,cond_true];obtain⟨A',j,o,p⟩:=Ku l _ _ m C (by simpa using t);exact⟨A',j,o,by simpa using p⟩
    | false=>simp only[Bool.not_false,Bool.true_or,cond_false];obtain⟨A',j,o,p⟩:=Ku l _ _ true C (by simpa using t);exact⟨A',j,o,by simpa using p⟩
   | true=>
    simp only[if_true,cond_true,force_eq];have ga:FU w (Jn w N e.dst e.set) e.at_=if e.dst=e.at_ then A.getD e.dst 0|||e.set else A.getD e.at_ 0:=by
     rw[C.get (by simpa using P),dG];split
     ·rename_i q;rw[<-q,tG i];rfl
     ·rename_i q;rw[uG q,<-dG]
    rw[ga];have a1:(if e.dst=e.at_ then A.getD e.dst 0|||e.set else A.getD e.at_ 0)<2 ^ w:=by
     split
     ·exact Nat.or_lt_two_pow (h.L6 _) R
     ·exact h.L6 _
    generalize (if e.dst=e.at_ then A.getD e.dst 0|||e.set else A.getD e.at_ 0)=T at *;have I:=C.or (i:=e.dst) (S:=T) (by simpa using i) a1;have e1:(A.set e.dst (A.getD e.dst 0|||e.set)).getD e.dst 0=A.getD e.dst 0|||e.set:=by rw[dG,tG i];rfl
    rw[e1,List.set_set]at I;have g2:FU w (Jn w (Jn w N e.dst e.set) e.dst T) e.dst=(A.getD e.dst 0|||e.set)|||T:=by rw[I.get (by simpa using i),dG,tG i];rfl
    rw[g2,h.get i,<-Bool.or_assoc,mw];cases J:Nat.beq ((A.getD e.dst 0|||e.set)|||T) (A.getD e.dst 0) with
    | true=>simp only[Bool.not_true,Bool.false_or,cond_true];obtain⟨A',j,o,p⟩:=Ku l _ _ m I (by simpa using t);exact⟨A',j,o,by simpa using p⟩
    | false=>simp only[Bool.not_false,Bool.true_or,cond_false];obtain⟨A',j,o,p⟩:=Ku l _ _ true I (by simpa using t);exact⟨A',j,o,by simpa using p⟩
def Pk.list(h:Pk w A N):A=(List.range A.length).map (FU w N):=by
 apply List.ext_getElem?;intro i;by_cases j:i<A.length
 ·rw[pG,List.getElem?_range j,Option.map_some,h.get j,dG,eG j];rfl
 ·rw[nG mR,nG mX]
theorem SC{w:Nat}{j:List Edge}:∀(f:Nat) (A:List Nat) (N i:Nat),Pk w A N->(∀e∈j,NB w A.length e)->KZ w j f N=nJ i->Gz.Hh j f A=nJ ((List.range A.length).map (FU w i))
 | 0,A,N,i,_,_,h=>by simp[KZ]at h
 | f+1,A,N,i,J,p,h=>by
  obtain⟨t,I,o,l⟩:=Ku j A N false J p;unfold KZ at h;unfold Gz.Hh;rw[I];generalize Ij w j N false=q at *;obtain⟨C,m⟩:=q;cases m with
  | true=>simp only at h ⊢;have:=SC f t C i o (by rw[l];exact p) h;rw[l]at this;exact this
  | false=>
   simp only at h ⊢;cases h
   rw[<-l];exact congrArg nJ o.list
