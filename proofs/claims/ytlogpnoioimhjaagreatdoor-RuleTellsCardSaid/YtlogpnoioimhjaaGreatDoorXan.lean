/- What comes with nonterminals. -/
import Derived.Test.YtlogpnoioimhjaaGreatDoorXam
set_option linter.all false
set_option maxRecDepth 100000
set_option maxHeartbeats 16000000
namespace Go.Proofs.YtlogpnoioimhjaaGreatDoor
open Go.RowKit
namespace Gz
def IU(g:Gz)(p:List Nat×List Nat)(x:It):List Nat×List Nat:=if g.BV (g.next x)=true/\g.next x ∉ p.2 then(p.1++[g.next x],g.next x::p.2) else p
def FT(g:Gz):Nat->List Nat->List Nat->List It->Option (List It)
 | 0,_,_,_=>none
 | _+1,[],_,all=>if 300<all.length then none else some all
 | f+1,s::i,M,all=>if 10000<i.length+M.length+all.length then none else FT g f ((g.En s).foldl g.IU (i,M)).1 ((g.En s).foldl g.IU (i,M)).2 (all++g.En s)
def Lr:Nat:=1000
def Es(g:Gz):Nat->Option (List (List It))
 | 0=>some []
 | k+1=>match Es g k with
  | none=>none
  | some l=>if k<=g.nt then some (l++[[]]) else match FT g Lr [k] [k] [] with
   | none=>none
   | some r=>some (l++[r])
def La(g:Gz):Option (List (List It)):=Es g (g.top+1)
def FN:List (List It)->Nat->List (List It)->List It->List (List It)×List It
 | [],_,L,t=>(L,t)
 | k::r,s,L,t=>if k.length=0 then FN r (s+1) L t else FN r (s+1) (EK L k).2 (t++[(s,(EK L k).1)])
def Ja(g:Gz)(bg:List (List It)):Nat->Nat->List (List It)->List (List It)->Option (List (List It)×List (List It))
 | 0,_,_,_=>none
 | f+1,i,L,E=>match L[i]? with
  | none=>some (L,E)
  | some K=>if 300<K.length then none else
   if 2000<(FN (g.GQ bg K) 0 L []).1.length then none else Ja g bg f (i+1) (FN (g.GQ bg K) 0 L []).1 (E++[(FN (g.GQ bg K) 0 L []).2])
def Ld(g:Gz)(f:Nat):Option (List (List It)×List (List It)):=match g.La with
 | none=>none
 | some bg=>Ja g bg f 0 [[(g.R.length,0)]] []
end Gz
def WT(g:Gz)(s:Nat):(g.En s).length<=g.R.length:=by unfold Gz.En;rw[lM];exact LY g s
def U6{g:Gz}{s:Nat}{x:It}(h:x∈g.En s):x.1<g.R.length/\x.2=0:=by unfold Gz.En at h;obtain⟨k,i,rfl⟩:=List.mem_map.1 h;unfold Gz.CD at i;have:=List.mem_range.1 (List.mem_filter.1 i).1;exact⟨this,rfl⟩
theorem Ts{g:Gz}:∀(f:Nat) (j M:List Nat) (all r:List It),(∀x∈all,x.1<g.R.length/\x.2=0)->g.FT f j M all=some r->r.length<=300/\∀x∈r,x.1<g.R.length/\x.2=0
 | 0,_,_,_,r,_,h=>by simp[Gz.FT]at h
 | f+1,[],M,all,r,ha,h=>by
  unfold Gz.FT at h;split at h
  ·cases h
  ·cases h;exact⟨by omega,ha⟩
 | f+1,s::j,M,all,r,ha,h=>by
  unfold Gz.FT at h;split at h
  ·cases h
  ·refine Ts f _ _ _ r (fun x l=>?_) h
   rcases mA.1 l with i|i
   ·exact ha x i
   ·exact U6 i
theorem Lz{g:Gz}:∀(k:Nat) (l:List (List It)),g.Es k=some l->l.length=k/\∀r∈l,r.length<=300/\∀x∈r,x.1<=g.R.length/\x.2<=9000
 | 0,l,h=>by
  unfold Gz.Es at h;cases h
  exact⟨rfl,fun r j=>by cases j⟩
 | k+1,l,h=>by
  unfold Gz.Es at h;cases t:g.Es k with
  | none=>rw[t]at h;cases h
  | some P=>
   rw[t]at h;obtain⟨C,I⟩:=Lz k P t;simp only at h;split at h
   ·cases h
    refine⟨by simp[C],fun r j=>?_⟩;rcases mA.1 j with i|i
    ·exact I r i
    ·rw[mS.1 i]
     exact⟨by simp,fun x o=>by cases o⟩
   ·cases p:g.FT Gz.Lr [k] [k] [] with
    | none=>rw[p]at h;cases h
    | some R=>
     rw[p]at h;cases h
     have J:=Ts _ _ _ _ _ (fun x o=>by cases o) p;refine⟨by simp[C],fun r j=>?_⟩;rcases mA.1 j with i|i
     ·exact I r i
     ·rw[mS.1 i]
      exact⟨J.1,fun x o=>by have:=J.2 x o;omega⟩
theorem aB{g:Gz}{k:Nat}{l:List (List It)}(h:g.Es (k+1)=some l)(t:g.nt<k):∃i r,g.Es k=some i/\g.FT Gz.Lr [k] [k] []=some r/\l=i++[r]:=by
 unfold Gz.Es at h;cases o:g.Es k with
 | none=>rw[o]at h;cases h
 | some i=>
  rw[o]at h;simp only at h;rw[if_neg (by omega)]at h;cases j:g.FT Gz.Lr [k] [k] [] with
  | none=>rw[j]at h;cases h
  | some p=>
   rw[j]at h;cases h
   exact⟨i,p,rfl,rfl,rfl⟩
theorem Rw{g:Gz}:∀k,k<=g.nt+1->g.Es k=some (List.replicate k [])
 | 0,_=>rfl
 | k+1,i=>by unfold Gz.Es;rw[Rw k (by omega)];simp only;rw[if_pos (by omega),List.replicate_succ']
theorem Q8{g:Gz}:∀(n k:Nat) (l:List (List It)),k<=n->g.Es n=some l->g.Es k=some (l.take k)
 | 0,k,l,o,h=>by
  obtain rfl:k=0:=by omega
  simp[Gz.Es]
 | n+1,k,l,o,h=>by
  by_cases p:k=n+1
  ·subst p
   have:=(Lz _ _ h).1;rw[De (by omega)];exact h
  ·have h0:=h
   unfold Gz.Es at h;cases i:g.Es n with
   | none=>rw[i]at h;cases h
   | some j=>
    rw[i]at h;have C:=(Lz _ _ i).1;have t:=Q8 n k j (by omega) i;have:∃r,l=j++[r]:=by
     simp only at h;split at h
     ·cases h;exact⟨_,rfl⟩
     ·split at h
      ·cases h
      ·cases h;exact⟨_,rfl⟩
    obtain⟨r,rfl⟩:=this;rw[t,List.take_append_of_le_length (by omega)]
structure AU where
 s:Nat
 set:Nat
 self:Bool
structure Edge where
 dst:Nat
 at_:Nat
 set:Nat
 self:Bool
def CB(xs:Bool)(i:Nat)(c:AU)(own:Bool)(t:Nat×Bool):AU×Bool:=
 if xs=false/\i=0 then(c,false)
 else if t.2=false then(⟨c.s,c.set|||t.1,c.self⟩,(c.set|||t.1) != c.set)
 else if xs=true/\c.self=false then(⟨c.s,(c.set|||t.1)|||(if own then c.set|||t.1 else i),true⟩,true)
 else(⟨c.s,(c.set|||t.1)|||(if own then c.set|||t.1 else i),c.self⟩,(((c.set|||t.1)|||(if own then c.set|||t.1 else i)) != (c.set|||t.1))||((c.set|||t.1) != c.set))
namespace Gz
def DF(g:Gz)(E:Nat)(C:List Nat)(k:Nat):List (Nat×Bool):=(List.range (g.right k).length).map fun d=>Dp E C ((g.right k).drop (d+1)) 0
def Gg(T:List (List (Nat×Bool)))(k d:Nat):Nat×Bool:=(T.getD k []).getD d (0,false)
def Fp(g:Gz)(T:List (List (Nat×Bool)))(i:Nat)(xs:Bool)(p:List AU×List Nat)(k:Nat):List AU×List Nat:=
 match g.right k with
 | []=>p
 | y::_=>if g.BV y=false then p else
  match p.1.findIdx? (fun c=>c.s==y) with
  | some j=>(p.1.set j (CB xs (p.1.getD i ⟨0,0,false⟩).set (p.1.getD j ⟨0,0,false⟩) (i==j) (Gg T k 0)).1,if (CB xs (p.1.getD i ⟨0,0,false⟩).set (p.1.getD j ⟨0,0,false⟩) (i==j) (Gg T k 0)).2 then p.2++[j] else p.2)
  | none=>(p.1++[(CB xs (p.1.getD i ⟨0,0,false⟩).set ⟨y,0,false⟩ false (Gg T k 0)).1],p.2++[p.1.length])
def Hs(g:Gz)(T:List (List (Nat×Bool))):Nat->List AU->List Nat->Option (List AU)
 | 0,_,_=>none
 | _+1,out,[]=>some out
 | f+1,out,i::j=>if 10000<out.length+j.length then none else
  Hs g T f ((g.CD (out.getD i ⟨0,0,false⟩).s).foldl (g.Fp T i (out.getD i ⟨0,0,false⟩).self) (out,j)).1 ((g.CD (out.getD i ⟨0,0,false⟩).s).foldl (g.Fp T i (out.getD i ⟨0,0,false⟩).self) (out,j)).2
def RD:Nat:=1000
def JC(g:Gz)(T:List (List (Nat×Bool)))(s:Nat):Option (List AU):=Hs g T RD [⟨s,0,true⟩] [0]
def Dk(g:Gz)(T:List (List (Nat×Bool))):Nat->Option (List (List AU))
 | 0=>some []
 | k+1=>match Dk g T k with
  | none=>none
  | some l=>if k<=g.nt then some (l++[[]]) else match JC g T k with
   | none=>none
   | some r=>some (l++[r])
def J4(L:List (List It))(base:List Nat)(i:Nat)(x:It):Option Nat:=((L.getD i []).findIdx? (fun y=>x==y)).map (base.getD i 0+·)
def Hb(g:Gz)(L E:List (List It))(base:List Nat)(st:Nat)(x:It):Option Nat:=
 match (E.getD st []).find? (fun t=>t.1==g.next x) with
 | none=>none
 | some t=>J4 L base t.2 (x.1,x.2+1)
abbrev Cr:=Nat×List It×List Edge
def Dh(n:Nat)(F:List It)(k:Nat):Nat×Nat×List It:=match F.find? (fun f=>f.1==k) with|some f=>(f.2,n,F)|none=>(n,n+1,F++[(k,n)])
def FI(g:Gz)(L E:List (List It))(base:List Nat)(st at_ S:Nat)(self i:Bool):List Nat->Cr->Option Cr
 | [],q=>some q
 | k::l,q=>
  match (g.right k).length with
  | 0=>FI g L E base st at_ S self i l ((Dh q.1 q.2.1 k).2.1,(Dh q.1 q.2.1 k).2.2,if i then q.2.2 else q.2.2++[⟨(Dh q.1 q.2.1 k).1,at_,S,self⟩])
  | _+1=>match Hb g L E base st (k,0) with
   | none=>none
   | some t=>FI g L E base st at_ S self i l (q.1,q.2.1,if i then q.2.2 else q.2.2++[⟨t,at_,S,self⟩])
def F7(g:Gz)(L E:List (List It))(base:List Nat)(st at_:Nat)(t:Nat×Bool):List AU->Cr->Option Cr
 | [],q=>some q
 | c::l,q=>match FI g L E base st at_ (if c.self then c.set|||t.1 else c.set) (c.self&&t.2) (!t.2&&t.1==0) (g.CD c.s) q with
  | none=>none
  | some i=>F7 g L E base st at_ t l i
def GI(g:Gz)(L E:List (List It))(base:List Nat)(T:List (List (Nat×Bool)))(j:List (List AU))(st at_:Nat)(x:It)(q:Cr):Option Cr:=
 if (g.right x.1).length<=x.2 then some q else
 match Hb g L E base st x with
 | none=>none
 | some i=>if g.BV (g.next x) then F7 g L E base st at_ (Gg T x.1 x.2) (j.getD (g.next x) []) (q.1,q.2.1,q.2.2++[⟨i,at_,0,true⟩]) else some (q.1,q.2.1,q.2.2++[⟨i,at_,0,true⟩])
def EJ(g:Gz)(L E:List (List It))(base:List Nat)(T:List (List (Nat×Bool)))(i:List (List AU))(st:Nat):List It->Nat->Cr->Option Cr
 | [],_,q=>some q
 | x::l,at_,q=>match GI g L E base T i st at_ x q with
  | none=>none
  | some j=>EJ g L E base T i st l (at_+1) j
def B0(g:Gz)(L E:List (List It))(base:List Nat)(T:List (List (Nat×Bool)))(o:List (List AU)):List (List It)->Nat->Nat×List (List It)×List Edge->Option (Nat×List (List It)×List Edge)
 | [],_,q=>some q
 | K::l,j,q=>match EJ g L E base T o j K (base.getD j 0) (q.1,[],q.2.2) with
  | none=>none
  | some i=>B0 g L E base T o l (j+1) (i.1,q.2.1++[i.2.1],i.2.2)
def Cd:List (List It)->Nat->List Nat
 | [],_=>[]
 | K::l,n=>n::Cd l (n+K.length)
def FC:List Edge->List Nat->Bool->List Nat×Bool
 | [],A,m=>(A,m)
 | e::l,A,m=>
  if A.getD e.at_ 0=0 then FC l A m else
  if e.self then FC l (A.set e.dst ((A.getD e.dst 0|||e.set)|||(if e.dst=e.at_ then A.getD e.dst 0|||e.set else A.getD e.at_ 0))) ((((A.getD e.dst 0|||e.set)|||(if e.dst=e.at_ then A.getD e.dst 0|||e.set else A.getD e.at_ 0)) != (A.getD e.dst 0|||e.set))||(((A.getD e.dst 0|||e.set) != A.getD e.dst 0)||m))
  else FC l (A.set e.dst (A.getD e.dst 0|||e.set)) (((A.getD e.dst 0|||e.set) != A.getD e.dst 0)||m)
def G7(j:List Edge):Nat->List Nat->Option (List Nat)
 | 0,_=>none
 | f+1,A=>match FC j A false with
  | (i,true)=>G7 j f i
  | (i,false)=>some i
def CK(g:Gz):List It->Nat->List It
 | [],_=>[]
 | x::l,b=>if x.2=(g.right x.1).length then(x.1,b)::CK g l (b+1) else CK g l (b+1)
def Iz(g:Gz)(A:List Nat)(i:List It):List (Nat×Nat):=(List.range (g.R.length+1)).filterMap fun k=>(i.reverse.find? (fun p=>p.1==k)).map fun p=>(k,A.getD p.2 0)
def Is(g:Gz)(A:List Nat):List (List It)->List Nat->List (List It)->List (List (Nat×Nat))
 | K::l,b::bs,F::i=>Iz g A (CK g K b++F)::Is g A l bs i
 | _,_,_=>[]
def Iv(g:Gz)(j:List It)(i:List (Nat×Nat))(t:Nat):List (Nat×Nat):=
 ((if 0<t then j.filter (fun x=>x.1==t) else[]).map fun x=>(1,x.2))
 ++ ((i.filter fun x=>x.1==g.R.length&&x.2.testBit t).map fun _=>(3,0))
 ++ ((i.filter fun x=>x.1 != g.R.length&&x.2.testBit t).map fun x=>(2,x.1))
end Gz
def force{i:Type}(n:Nat)(k:Nat->i):i:=Nat.rec (k 0) (fun m _=>k (m+1)) n
def force_eq{i:Type}(n:Nat)(k:Nat->i):force n k=k n:=by cases n<;>rfl
def FV(w N i:Nat):Nat:=(N >>> (w*i))%2 ^ w
def Jm(w N i S:Nat):Nat:=N|||(S <<< (w*i))
def H6(w:Nat):List Edge->Nat->Bool->Nat×Bool
 | [],N,m=>(N,m)
 | e::l,N,m=>
  bif Nat.beq (FV w N e.at_) 0 then H6 w l N m
  else force (Jm w N e.dst e.set) fun i=>bif e.self then force (Jm w i e.dst (FV w i e.at_)) fun j=>
    bif Nat.beq (FV w j e.dst) (FV w N e.dst) then H6 w l j m else H6 w l j true
   else bif Nat.beq (FV w i e.dst) (FV w N e.dst) then H6 w l i m else H6 w l i true
def Li(w:Nat)(j:List Edge):Nat->Nat->Option Nat
 | 0,_=>none
 | f+1,N=>match H6 w j N false with
  | (i,true)=>Li w j f i
  | (i,false)=>some i
structure Pk(w:Nat)(A:List Nat)(N:Nat):Prop where
 bit:∀i,i<A.length->∀b,b<w->N.testBit (w*i+b)=(A.getD i 0).testBit b
 lt:∀x∈A,x<2 ^ w
variable{N w:Nat}{A:List Nat}
theorem Pk.MD(h:Pk w A N)(i:Nat):A.getD i 0<2 ^ w:=by
 rw[dG];cases j:A[i]? with
 | none=>exact Nat.two_pow_pos w
 | some x=>exact h.lt x (mG j)
def L4{S b:Nat}(h:S<2 ^ w)(i:w<=b):S.testBit b=false:=Nat.testBit_lt_two_pow (Ba h (Nat.pow_le_pow_right (by decide) i))
def Pk.get(h:Pk w A N){i:Nat}(l:i<A.length):FV w N i=A.getD i 0:=by
 apply Nat.eq_of_testBit_eq;intro b;unfold FV;rw[Nat.testBit_mod_two_pow,Nat.testBit_shiftRight];by_cases j:b<w
 ·rw[decide_eq_true j,Bool.true_and,h.bit i l b j]
 ·rw[decide_eq_false j,Bool.false_and,L4 (h.MD i) (by omega)]
def Pk.or(h:Pk w A N){i S:Nat}(I:i<A.length)(p:S<2 ^ w):Pk w (A.set i (A.getD i 0|||S)) (Jm w N i S):=by
 refine⟨fun k t b C=>?_,fun x J=>?_⟩
 ·rw[List.length_set]at t
  unfold Jm;rw[Nat.testBit_or,Nat.testBit_shiftLeft,h.bit k t b C];by_cases o:i=k
  ·subst o
   have e:(A.set i (A.getD i 0|||S)).getD i 0=A.getD i 0|||S:=by rw[dG,tG I];rfl
   rw[e,Nat.testBit_or,decide_eq_true (by omega:w*i+b>=w*i),Bool.true_and,show w*i+b-w*i=b by omega]
  ·have e:(A.set i (A.getD i 0|||S)).getD k 0=A.getD k 0:=by rw[dG,uG o,<-dG]
   rw[e];have:(decide (w*k+b>=w*i)&&S.testBit (w*k+b-w*i))=false:=by
    rcases Nat.lt_or_gt_of_ne o with j|j
    ·have l:w*(i+1)<=w*k:=Nat.mul_le_mul_left w j
     rw[Nat.mul_add,Nat.mul_one]at l;rw[L4 p (by omega),Bool.and_false]
    ·have l:w*(k+1)<=w*i:=Nat.mul_le_mul_left w j
     rw[Nat.mul_add,Nat.mul_one]at l;rw[decide_eq_false (by omega),Bool.false_and]
   rw[this,Bool.or_false]
 ·rcases List.mem_or_eq_of_mem_set J with j|rfl
  ·exact h.lt x j
  ·exact Nat.or_lt_two_pow (h.MD i) p
def eR(a s t:Nat):((((a|||s)|||t) != (a|||s))||((a|||s) != a))=!(Nat.beq ((a|||s)|||t) a):=by
 by_cases h:(a|||s)|||t=a
 ·have l:a|||s=a:=by
   apply Nat.eq_of_testBit_eq;intro b;have:=congrArg (·.testBit b) h;simp only[Nat.testBit_or]at this ⊢;revert this;cases a.testBit b<;>cases s.testBit b<;>simp
  have i:Nat.beq ((a|||s)|||t) a=true:=by rw[Nat.beq_eq];exact h
  rw[i,h,l];simp
 ·have i:Nat.beq ((a|||s)|||t) a=false:=by
   cases o:Nat.beq ((a|||s)|||t) a with
   | false=>rfl
   | true=>exact absurd (Nat.eq_of_beq_eq_true o) h
  rw[i];simp only[Bool.not_false,Bool.or_eq_true,bne_iff_ne];by_cases j:(a|||s)|||t=a|||s
  ·exact .inr (fun e=>h (j.trans e))
  ·exact .inl j
theorem VY(a s:Nat):((a|||s) != a)=!(Nat.beq (a|||s) a):=by
 by_cases h:a|||s=a
 ·have:Nat.beq (a|||s) a=true:=by rw[Nat.beq_eq];exact h
  rw[this];simp[h]
 ·have:Nat.beq (a|||s) a=false:=by
   cases i:Nat.beq (a|||s) a with
   | false=>rfl
   | true=>exact absurd (Nat.eq_of_beq_eq_true i) h
  rw[this];simp[h]
def Ps(w n:Nat)(e:Edge):Prop:=e.dst<n/\e.at_<n/\e.set<2 ^ w
theorem Kk{w:Nat}:∀(l:List Edge) (A:List Nat) (N:Nat) (m:Bool),Pk w A N->(∀e∈l,Ps w A.length e)->∃A',Gz.FC l A m=(A',(H6 w l N m).2)/\Pk w A' (H6 w l N m).1/\A'.length=A.length
 | [],A,N,m,h,_=>⟨A,rfl,h,rfl⟩
 | e::l,A,N,m,h,U=>by
  obtain⟨i,P,R⟩:=U e (by simp);have t:∀x∈l,Ps w A.length x:=fun x hx=>U x (by simp[hx])
  unfold Gz.FC H6;rw[h.get P];by_cases h0:A.getD e.at_ 0=0
  ·rw[if_pos h0,h0]
   exact Kk l A N m h t
  ·rw[if_neg h0]
   have a0:Nat.beq (A.getD e.at_ 0) 0=false:=by
    cases J:Nat.beq (A.getD e.at_ 0) 0 with
    | false=>rfl
    | true=>exact absurd (Nat.eq_of_beq_eq_true J) h0
   rw[a0,cond_false,force_eq];have C:=h.or i R;have g1:FV w (Jm w N e.dst e.set) e.dst=A.getD e.dst 0|||e.set:=by rw[C.get (by simpa using i),dG,tG i];rfl
   cases hs:e.self with
   | false=>
    simp only[Bool.false_eq_true,if_false,cond_false];rw[g1,h.get i,VY];cases J:Nat.beq (A.getD e.dst 0|||e.set) (A.getD e.dst 0) with
    | true=>simp only[Bool.not_true,Bool.false_or,cond_true];obtain⟨A',j,o,p⟩:=Kk l _ _ m C (by simpa using t);exact⟨A',j,o,by simpa using p⟩
    | false=>simp only[Bool.not_false,Bool.true_or,cond_false];obtain⟨A',j,o,p⟩:=Kk l _ _ true C (by simpa using t);exact⟨A',j,o,by simpa using p⟩
   | true=>
    simp only[if_true,cond_true,force_eq];have ga:FV w (Jm w N e.dst e.set) e.at_=if e.dst=e.at_ then A.getD e.dst 0|||e.set else A.getD e.at_ 0:=by
     rw[C.get (by simpa using P),dG];split
     ·rename_i q;rw[<-q,tG i];rfl
     ·rename_i q;rw[uG q,<-dG]
    rw[ga];have a1:(if e.dst=e.at_ then A.getD e.dst 0|||e.set else A.getD e.at_ 0)<2 ^ w:=by
     split
     ·exact Nat.or_lt_two_pow (h.MD _) R
     ·exact h.MD _
    generalize (if e.dst=e.at_ then A.getD e.dst 0|||e.set else A.getD e.at_ 0)=T at *;have I:=C.or (i:=e.dst) (S:=T) (by simpa using i) a1;have e1:(A.set e.dst (A.getD e.dst 0|||e.set)).getD e.dst 0=A.getD e.dst 0|||e.set:=by rw[dG,tG i];rfl
    rw[e1,List.set_set]at I;have g2:FV w (Jm w (Jm w N e.dst e.set) e.dst T) e.dst=(A.getD e.dst 0|||e.set)|||T:=by rw[I.get (by simpa using i),dG,tG i];rfl
    rw[g2,h.get i,<-Bool.or_assoc,eR];cases J:Nat.beq ((A.getD e.dst 0|||e.set)|||T) (A.getD e.dst 0) with
    | true=>simp only[Bool.not_true,Bool.false_or,cond_true];obtain⟨A',j,o,p⟩:=Kk l _ _ m I (by simpa using t);exact⟨A',j,o,by simpa using p⟩
    | false=>simp only[Bool.not_false,Bool.true_or,cond_false];obtain⟨A',j,o,p⟩:=Kk l _ _ true I (by simpa using t);exact⟨A',j,o,by simpa using p⟩
def Pk.list(h:Pk w A N):A=(List.range A.length).map (FV w N):=by
 apply List.ext_getElem?;intro i;by_cases j:i<A.length
 ·rw[pG,List.getElem?_range j,Option.map_some,h.get j,dG,eG j];rfl
 ·rw[nG (by omega),nG (by simp;omega)]
theorem PL{w:Nat}{j:List Edge}:∀(f:Nat) (A:List Nat) (N i:Nat),Pk w A N->(∀e∈j,Ps w A.length e)->Li w j f N=some i->Gz.G7 j f A=some ((List.range A.length).map (FV w i))
 | 0,A,N,i,_,_,h=>by simp[Li]at h
 | f+1,A,N,i,J,p,h=>by
  obtain⟨t,I,o,l⟩:=Kk j A N false J p;unfold Li at h;unfold Gz.G7;rw[I];generalize H6 w j N false=q at *;obtain⟨C,m⟩:=q;cases m with
  | true=>simp only at h ⊢;have:=PL f t C i o (by rw[l];exact p) h;rw[l]at this;exact this
  | false=>
   simp only at h ⊢;cases h
   rw[<-l];exact congrArg some o.list
end Go.Proofs.YtlogpnoioimhjaaGreatDoor
