/- . -/
import Derived.Test.YtiljpamcmmeflaaGreatDoorXce
set_option linter.all false
set_option maxRecDepth 100000
set_option maxHeartbeats 16000000
namespace Go.Proofs.YtiljpamcmmeflaaGreatDoor
open Go.RowKit Go.Proofs.Tryz
open Value renaming slice→nC,int→nE,pointer→nF,string→nH,bool→nI
open Option renaming some→nJ,none→nK
open IntKind renaming i64→nM
open Obj renaming cells→nO
open Ending renaming returned→nP
open World renaming cell?→nQ
open Go renaming World→nS,Value→nU
variable{w:nS}{A:Option Addr}{tr:List Nd}{ks:List Nat}{b:Bool}
section
set_option maxRecDepth 1000000
def OS(j l:Int)(T:List (Nd×nU)):Prop:=∃b,T.map (·.1)=[⟨j,0,-1,[],true,b⟩]\/∃r i,(i=[]\/i=[0])/\T.map (·.1)=[⟨j,0,-1,[],true,b⟩,⟨l,-1,r,i,false,false⟩]
def lx{i:nS}{rb:Nat}{J s r:Int}{R:nU}(h:Cx i w rb [(⟨J,0,-1,[],true,false⟩,R)])(p:Below i i w){n c:Nat}(hn:n<=100)(a2:n<=c)(hc:c<=maxLen)(hA:A=nK->c=0)(hl:∀k,k<n->∃b off,A=nJ ⟨b,off,nK⟩/\b<i.heap.size/\∃x:Int,nQ i ⟨b,off+k,nK⟩=nJ (nE nM x)) :
  () 13 #[(rb,0),s,r,nC A n c] w fun e w'=>(∃q:Int,e=nP q)/\Below i i w'/\∃T,Cx i w' rb T/\OS J s T:=by
 have t:∀l,(n=0/\l=[])\/(n=1/\l=[0]/\∃b off,A=nJ ⟨b,off,nK⟩/\b<i.heap.size/\nQ i ⟨b,off,nK⟩=nJ (nE nM 0))->() 13 #[(rb,0),s,r,nC A n c] w (LP i w rb s r [(⟨J,0,-1,[],true,false⟩,R)] l):=by
  intro l j;refine Qf h p.size (fun y hy=>⟨⟨A,c,?_,fun a4 x C=>?_⟩,?_,fun A' n' c' e=>?_⟩) (fun e=>?_) ?_ ?_ (fun k t=>?_) mV mR
  ·rcases j with⟨rfl,rfl⟩|⟨rfl,rfl,-⟩<;>rfl
  ·rcases j with⟨rfl,rfl⟩|⟨rfl,rfl,b,off,e,o,I⟩
   ·cases C
   ·have hj:=(sG.1 C).1
    obtain rfl:a4=0:=by simp at hj;omega
    cases C
    have hz:=p.trans (hy.below p.size);exact⟨b,off,e,AK o hz.size,(hz.cell (p:=⟨b,_,nK⟩) o).trans I⟩
  ·rcases j with⟨rfl,rfl⟩|⟨rfl,rfl,-⟩<;>decide
  ·cases e;exact⟨a2,hA⟩
  ·rcases j with⟨rfl,rfl⟩|⟨rfl,rfl,-⟩
   ·cases A with
    | none=>rw[hA rfl];exact .inl rfl
    | some ad=>exact .inr ⟨_,_,rfl⟩
   ·cases e
  ·rcases j with⟨rfl,rfl⟩|⟨rfl,rfl,-⟩<;>rfl
  ·rcases j with⟨rfl,rfl⟩|⟨rfl,rfl,-⟩<;>simp
  ·rcases j with⟨rfl,rfl⟩|⟨rfl,rfl,-⟩
   ·cases t
   ·cases mS.1 t;exact⟨_,rfl,rfl⟩
 have a1:∀l,(l=[]\/l=[0])->∀e w',LP i w rb s r [(⟨J,0,-1,[],true,false⟩,R)] l e w'->(∃q:Int,e=nP q)/\Below i i w'/\∃T,Cx i w' rb T/\OS J s T:=by
  rintro l j e w' ⟨o,kv,I,P,-⟩;refine⟨⟨_,o⟩,p.trans (P.below p.size),_,I,?_⟩;rcases j with rfl|rfl
  ·exact⟨false,.inr ⟨r,[],.inl rfl,rfl⟩⟩
  ·exact⟨true,.inr ⟨r,[0],.inr rfl,rfl⟩⟩
 by_cases h0:n=0
 ·exact(t [] (.inl ⟨h0,rfl⟩)).mono (a1 [] (.inl rfl))
 obtain⟨b,off,a0,a3,x,C⟩:=hl 0 mR;by_cases o:n=1/\x=0
 ·exact(t [0] (.inr ⟨o.1,rfl,b,off,a0,a3,by rw[o.2]at C;exact C⟩)).mono (a1 [0] (.inr rfl))
 refine(V5 h rfl (fun a6 hp=>by cases mS.1 hp;rfl) h0 a2 hc fun k t=>?_).mono ?_
 ·obtain⟨U,a5,e,I,y,P⟩:=hl k t
  refine⟨U,a5,e,AK I p.size,y,(p.cell (p:=⟨U,_,nK⟩) I).trans P,fun e1=>?_⟩;rintro rfl;obtain rfl:k=0:=by omega
  cases a0.symm.trans e
  cases C.symm.trans P
  exact o ⟨e1,rfl⟩
 ·rintro e w' ⟨rfl,rfl⟩
  exact⟨⟨_,rfl⟩,p,_,h,false,.inl rfl⟩
def Xs:(pz.R.all fun r=>decide (r.1≠39\/r.2.length=2))=true:=by decide +kernel
def Lr{s l r:Int}(h:I5 tr ⟨s,l,r,ks,true,b⟩):1<=s/\s<=38:=by
 rcases h with⟨-,i,j⟩|⟨h,-⟩
 ·exact⟨i,j⟩
 ·cases h
def Ut{s l r:Int}(h:I5 tr ⟨s,l,r,ks,false,b⟩)(t:ks.length<=1):s≠39:=by
 rcases h with⟨h,-⟩|⟨-,k,q,-,j,o,p,-⟩
 ·cases h
 ·have i:=of_decide_eq_true (List.all_eq_true.1 Xs q (mG j))
  simp only at o p;rintro rfl;rcases i with i|i<;>omega
def dT{w0:nS}{U rb vb cv b i:Nat}{I s1:Int}{T:List (Nd×nU)}(hb:G1 w U)(hT:Ip w)(ht:Cx w0 w rb T)(hB:OS I s1 T)(hv:GB w (nC (vb,0) 1 cv) 0 1 0 (b,0) 1 1 ⟨#[]⟩ ⟨#[104,10]⟩)(a9:Hk w (b,0) ⟨#[119]⟩)(hi:i<=1) :
  () 15 #[(U,0),(rb,0),i,nC (vb,0) 1 cv] w (Lo w):=by
 by_cases a7:i<T.length
 case neg=>exact U0 hb fun v y hg P=>Z7 (ht.later P) (hg.later P) mR
 obtain⟨p,j⟩:∃p,T[i]?=nJ p:=⟨_,eG a7⟩
 obtain⟨l,C⟩:∃l,T.map (·.1)=l:=⟨_,rfl⟩
 have a3:l[i]?=nJ p.1:=by rw[<-C,pG,j];rfl
 have a4:l.length=T.length:=by rw[<-C,lM]
 have a1:∀x∈l,x.kids.length<=1/\∀ae∈x.kids,ae<T.length:=by
  rw[<-a4];obtain⟨q,h|⟨r,ks,a2,h⟩⟩:=hB<;>rw[C]at h<;>subst h
  ·simp
  ·rcases a2 with rfl|rfl<;>simp
 have a0:∀p∈T,p.1∈l:=fun p j=>by rw[<-C];exact List.mem_map_of_mem j
 have R:∀J,En l 10 [i]=nJ J->(∀x∈Jm l J,x.sym=I/\x.leaf=0/\((∀k∈J,Ig l k)->1<=I/\I<=38))->((∀k∈J,Ig l k)->p.1.sym≠39)->() 15 #[(U,0),(rb,0),i,nC (vb,0) 1 cv] w (Lo w):=by
  intro J ad aa ab;have a5:¬KH l J (fun _=>No I ⟨#[119]⟩) p.1.sym:=fun h=>ab h.1 (h.2.2.trans PD.1)
  refine(QU hb (ht.Tt mR (fun _ h=>h) fun p j=>by have:=(a1 _ (a0 p j)).1;omega) C ad mT (fun p j=>⟨by have:=(a1 _ (a0 p j)).1;omega,Tl (ht.kids p j)⟩) (fun p j=>(a1 _ (a0 p j)).2) j (fb:=fun _=>No I ⟨#[119]⟩) (fun a6 q x o=>?_) (fun h=>absurd h a5)).mono ?_
  ·obtain⟨e1,e2,e3⟩:=aa x (mG o)
   obtain⟨h1,h2⟩:=e3 a6;refine⟨0,e2,mT,1,0,_,_,_,_,_,hv,fun y P=>?_⟩;rw[e1];exact Sg (hT.later P) (a9.later P) mT mT h1 h2
  ·rintro e w' (⟨h,-⟩|⟨-,h⟩)
   ·exact absurd h a5
   ·exact h
 have a8:i=0\/i=1:=by omega
 obtain⟨q,h|⟨r,ks,a2,h⟩⟩:=hB<;>rw[C]at h<;>subst h
 ·obtain rfl:i=0:=by simp at a4;omega
  have t:p.1=_:=(Option.some.inj a3).symm;refine R [0] rfl (fun x o=>?_) fun h e=>?_
  ·cases mS.1 o
   exact⟨rfl,rfl,fun h=>Lr (h 0 mV _ rfl)⟩
  ·have:=Lr (h 0 mV _ rfl)
   rw[t]at e;simp only at e;omega
 ·rcases a8 with rfl|rfl
  ·have t:p.1=_:=(Option.some.inj a3).symm
   refine R [0] rfl (fun x o=>?_) fun h e=>?_
   ·cases mS.1 o
    exact⟨rfl,rfl,fun h=>Lr (h 0 mV _ rfl)⟩
   ·have:=Lr (h 0 mV _ rfl)
    rw[t]at e;simp only at e;omega
  ·have t:p.1=_:=(Option.some.inj a3).symm
   rcases a2 with rfl|rfl
   ·exact R [1] rfl (fun x o=>by cases o) fun h=>by rw[t];exact Ut (h 1 mV _ rfl) mT
   ·refine R [1,0] rfl (fun x o=>?_) fun h=>by rw[t];exact Ut (h 1 mV _ rfl) mT
    cases mS.1 o
    exact⟨rfl,rfl,fun h=>Lr (h 0 mV _ rfl)⟩
end
def aH(y:nS):() 11 #[] y fun e w'=>e=nP (y,0)/\w'=y.alloc (nO #[nC nK 0 0] 80):=by
 go_enter func11,ntmps11
 go_wp2;go_ret;exact⟨rfl,rfl⟩
def mq{t v:nU}{i:Int}:() 15 #[nF nK,t,i,v] w (Lo w):=by
 have j:=Hd (AE w (nO #[nE nM 0,nH ⟨#[]⟩,nI false,nI false,nC nK 0 0,nC nK 0 0,nC nK 0 0,nC nK 0 0,nC nK 0 0,nC nK 0 0] 46));go_enter func15,ntmps15
 go_wp2;refine bodyPost_ret (KV rfl rfl (a:=⟨w.heap.size,0,nK⟩) (v:=.agg #[nE nM 0,nH ⟨#[]⟩,nI false,nI false,nC nK 0 0,nC nK 0 0,nC nK 0 0,nC nK 0 0,nC nK 0 0,nC nK 0 0]) ?_) rfl ⟨rfl,j⟩;go_simp
def Yc{k:Int}{K op:Int}{n c:Nat}{N:ByteArray}:() 9 #[nF nK,k,.agg #[K,op,nC A n c,nH N]] w fun e w'=>e=nP (nI false)/\Below w w w':=by
 go_enter func9,ntmps9
 go_wp2;go_ret;exact⟨rfl,AE w _⟩
def P4{tb:Nat}(h:GH w tb):tb<w.heap.size:=by obtain⟨_,_,_,_,_,_,_,_,_,_,_,_,_,_,_,_,_,_,_,_,_,h,-⟩:=h;exact h.lt
def gH(w:nS):Cx w (w.alloc (nO #[nC nK 0 0] 80)) w.heap.size []:=⟨⟨_,Ah.new w _ _,rfl,.inl ⟨rfl,rfl⟩⟩,fun p i=>(by cases i),AF _,mT⟩
def Xd{sym AX:Int}{n c:Nat}(hm:FI w)(hT:Ip w)(a9:n<=c)(hc:c<=maxLen)(hA:A=nK->c=0)(hl:∀k,k<n->∃b off,A=nJ ⟨b,off,nK⟩/\b<w.heap.size/\∃x:Int,nQ w ⟨b,off+k,nK⟩=nJ (nE nM x)) :
  () 4 #[sym,AX,nC A n c] w (fun e w'=>e=nP (nI true)/\Below w w w'):=by
 have HP:=Hd (YL hm);have HM:=Hd hm;have HT:=Hd hT;clear hm hT;by_cases hn:n<=100
 case neg=>
  have b1:(100:Int)<(n:Int):=by omega
  clear hl hn hA a9 hc;go_enter func4,ntmps4
  go_wp2_with (first
   | (go_at_call 5;refine HP.out.mono ?_;rintro e w1 ⟨tb,rfl,R,I⟩;have a3:=Hd (QQ (HM.out.later I) (HT.out.later I) R (P4 R));have o:=Hd I;clear R I)
   | (go_at_call 6;refine a3.out.mono ?_;rintro e t ⟨rfl,a0⟩;replace o:=Hd (o.out.trans (a0.mono o.out.size));clear a0))
  go_ret;exact⟨rfl,o.out⟩
 have b1:¬(100:Int)<(n:Int):=by omega
 have HL:=Hd (And.intro a9 (And.intro hc (And.intro hA hl)));clear a9 hc hA hl;go_enter func4,ntmps4
 go_wp2_with (first
  | (go_at_call 5;refine HP.out.mono ?_;rintro e w1 ⟨tb,rfl,R,I⟩;have a3:=Hd (QQ (HM.out.later I) (HT.out.later I) R (P4 R));have o:=Hd I;clear R I)
  | (
    go_at_call 6;refine a3.out.mono ?_;rintro e t ⟨rfl,a0⟩;replace o:=Hd (o.out.trans (a0.mono o.out.size));clear a0
    have a6:Hid (Cx t (t.alloc (nO #[nC nK 0 0] 80)) t.heap.size []):=Hd (gH t);have U:=Hd (AE t (nO #[nC nK 0 0] 80)))
  | (
    go_at_call 11;refine(aH _).mono ?_;rintro e w3 ⟨rfl,av⟩;rw[<-av]at a6 U;clear av
    have ai:=Hd (TX (s:=sym) (l:=0) a6.out U.out.size mT))
  | (
    go_at_call 12;refine ai.out.mono ?_;rintro e w4 ⟨rfl,ar,aq⟩
    have ae:=Hd (U.out.trans (aq.below U.out.size));have HJ:=Hd (lx (s:=AX) (r:=sym) ar ae.out hn HL.out.1 HL.out.2.1 HL.out.2.2.1 (fun k hk=>by obtain⟨b,off,C,P,x,h3⟩:=HL.out.2.2.2 k hk;exact⟨b,off,C,AK P o.out.size,x,(o.out.cell (p:=⟨b,_,nK⟩) P).trans h3⟩));clear ar aq)
  | (
    go_at_call 13;refine HJ.out.mono ?_;rintro e w5 ⟨⟨q,rfl⟩,al,b3,au,ak⟩
    have a5:=Hd (And.intro au ak);have af:=Hd (o.out.trans (al.mono o.out.size));clear al au ak))
 have a8:=Ah.new w5 3 #[nE nM 1];have aj:=Hd (Qu (w:=w5.alloc (nO #[nE nM 1] 3)) (A:=nJ ⟨w5.heap.size,0,nK⟩) (n:=1) (c:=1) (l:=[1]) rfl mT mV (fun b2 x hx=>⟨w5.heap.size,0,rfl,a8.lt,by
  have hj:=(sG.1 hx).1;obtain rfl:b2=0:=by simp at hj;omega
  cases hx
  exact a8.cell 0⟩))
 clear a8;have a4:=Hd (AE w5 (nO #[nE nM 1] 3));refine aj.out.mono ?_;rintro e i ⟨A6,c6,rfl,ab⟩;have a1:=a4.out.trans (ab.be.mono a4.out.size);have T:=Hd (af.out.trans (a1.mono af.out.size));obtain⟨J,rfl,C|⟨b6,s6,C,P,h3⟩⟩:=ab.val rfl (j:=0) (x:=1) rfl
 case inl=>exact absurd C.1 mT
 obtain rfl:s6=⟨#[119]⟩:=by
  rcases h3 with⟨-,h⟩|⟨h,-⟩
  ·exact h
  ·exact absurd h mT
 have aa:∀(ad:Nat) y j,ad<=1->Below i i y->G1 y j->() 15 #[nF (nJ ⟨j,0,nK⟩),(t,0),nE nM ad,nC (J,0) 1 c6] y fun e w'=>e=nP (.tuple #[.agg #[nE nM 0,nH ⟨#[]⟩,nI false,nI false,nC nK 0 0,nC nK 0 0,nC nK 0 0,nC nK 0 0,nC nK 0 0,nC nK 0 0],nI false])/\Below i i w':=fun ad y j hi l a2=>by have hz:=T.out.trans (l.mono T.out.size);have h5:=a1.trans (l.mono a1.size);exact(dT a2 (HT.out.later hz) (a5.out.1.later h5) a5.out.2 (C.later l) (P.later l) hi).mono fun e w' h=>⟨h.1,l.trans (h.2.mono l.size)⟩
 have ax:Hid (∀y j,Below i i y->G1 y j->() 15 #[nF (nJ ⟨j,0,nK⟩),(t,0),nE nM 0,nC (J,0) 1 c6] y fun e w'=>e=nP (.tuple #[.agg #[nE nM 0,nH ⟨#[]⟩,nI false,nI false,nC nK 0 0,nC nK 0 0,nC nK 0 0,nC nK 0 0,nC nK 0 0,nC nK 0 0],nI false])/\Below i i w'):=Hd fun y j=>aa 0 y j mT
 have ay:Hid (∀y j,Below i i y->G1 y j->() 15 #[nF (nJ ⟨j,0,nK⟩),(t,0),nE nM 1,nC (J,0) 1 c6] y fun e w'=>e=nP (.tuple #[.agg #[nE nM 0,nH ⟨#[]⟩,nI false,nI false,nC nK 0 0,nC nK 0 0,nC nK 0 0,nC nK 0 0,nC nK 0 0,nC nK 0 0],nI false])/\Below i i w'):=Hd fun y j=>aa 1 y j mT
 have az:Hid (∀y,Below i i y->() 15 #[nF nK,(t,0),nE nM 0,nC (J,0) 1 c6] y fun e w'=>e=nP (.tuple #[.agg #[nE nM 0,nH ⟨#[]⟩,nI false,nI false,nC nK 0 0,nC nK 0 0,nC nK 0 0,nC nK 0 0,nC nK 0 0,nC nK 0 0],nI false])/\Below i i w'):=Hd fun y l=>mq.mono fun e w' h=>⟨h.1,l.trans (h.2.mono l.size)⟩
 have ah:Hid (∀y,Below i i y->() 8 #[] y fun e w'=>∃j,e=nP (nF (nJ ⟨j,0,nK⟩))/\G1 w' j/\Below i i w'):=Hd fun y l=>(TG (HM.out.later (T.out.trans (l.mono T.out.size)))).mono fun e w' ⟨j,C,P,_,h4⟩=>⟨j,C,P,l.trans (h4.mono l.size)⟩
 have b0:Hid (∀y,Below i i y->nQ y (J,0)=nJ (nE nM 1)/\nQ y (J,1)=nJ (nE nM 0)/\nQ y (J,2)=nJ (nC (b6,0) 1 1)/\nQ y (J,3)=nJ (nH ⟨#[]⟩)/\J<y.heap.size):=Hd fun y l=>by
  obtain⟨b4,nv,cv,e,-,v1,v2,v3,v4,v5,-⟩:=C.later l;cases e
  simp only[Nat.zero_mul,Nat.zero_add]at v2 v3 v4 v5;exact⟨v2,v3,v4,v5,v1⟩
 have p:=Hd (Below.refl i.heap.size i);clear aa a1 C P h3 ab aj a4 a5 HL HJ ai a6 U ae;go_wp2_with (first
  | (
    go_at_call 8;(first|refine(ah.out _ p.out).mono ?_|refine(ah.out _ (p.out.alloc p.out.size _)).mono ?_);rintro e w7 ⟨j,rfl,a2,an⟩
    replace p:=Hd an;have ag:=Hd a2;clear a2 an)
  | (
    go_at_call 15;(first|(with_reducible refine(ax.out _ j p.out ag.out).mono ?_)|(with_reducible refine(ay.out _ j p.out ag.out).mono ?_)|(with_reducible refine(az.out _ (p.out.alloc p.out.size _)).mono ?_));rintro e w8 ⟨rfl,a7⟩
    replace p:=Hd a7;obtain⟨z0,z1,z2,z3,zl⟩:=b0.out _ a7;clear a7)
  | (
    go_at_call 9;refine Yc.mono ?_;rintro e w9 ⟨rfl,ao⟩
    have aw:=Hd ao;clear ao))
 go_ret;have hz:=p.out.alloc p.out.size (nO #[nE nM 0,nH ⟨#[]⟩,nI false,nI false,nC nK 0 0,nC nK 0 0,nC nK 0 0,nC nK 0 0,nC nK 0 0,nC nK 0 0] 46);exact⟨rfl,T.out.trans ((hz.trans (aw.out.mono hz.size)).mono T.out.size)⟩
