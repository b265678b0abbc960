/- . -/
import Derived.Test.YtiljpamcmmeflaaGreatDoorXae
import Derived.Test.YtiljpamcmmeflaaGreatDoorXnm
set_option linter.all false
set_option maxRecDepth 100000
set_option maxHeartbeats 16000000
namespace Go.Proofs.YtiljpamcmmeflaaGreatDoor
open Go.RowKit
open Value renaming slice→nC,int→nE,pointer→nF,bool→nI
open Option renaming some→nJ,none→nK
open IntKind renaming i64→nM
open Ending renaming returned→nP
open World renaming cell?→nQ
open Go renaming World→nS,Value→nU
variable{w':nS}{l:List Nat}{B S i:Nat}{p t:AH}{T:List TypeId}{m:Bool}
structure Gz where
 nt:Nat
 nn:Nat
 s:Nat
 R:List (Nat×List Nat)
variable{s:AH}
abbrev It:=Nat×Nat
namespace Gz
def top(g:Gz):Nat:=g.nt+g.nn
def BK(g:Gz)(x:Nat):Bool:=decide (g.nt<x)&&decide (x<=g.top)
def AX(g:Gz)(k:Nat):Nat×List Nat:=if k=g.R.length then(0,[g.s]) else g.R.getD k (0,[])
def right(g:Gz)(k:Nat):List Nat:=(g.AX k).2
def CF(g:Gz)(s:Nat):List Nat:=(List.range g.R.length).filter fun k=>(g.R.getD k (0,[])).1==s
end Gz
def Gz.FN(i:Gm):Gz:=⟨i.T.length,i.N.length,i.s.toNat,i.R.map fun r=>(r.left.toNat,r.right.map Int.toNat)⟩
structure GN(w:nS)(v:nU)(g:Gz):Prop where
 Fg:∃gm,Ei w v gm/\gm.check=0/\g=Gz.FN gm
variable{v:nU}
structure Gz.Fit(g:Gz):Prop where
 nt:g.nt<=120
 nn:g.nn<=120
 nr:g.R.length<=300
 short:∀r∈g.R,r.2.length<=8
 start:g.nt<g.s/\g.s<=g.top
 left:∀r∈g.R,g.nt<r.1/\r.1<=g.top
 right:∀r∈g.R,∀x∈r.2,1<=x/\x<=g.top
def DW{w:nS}{base base':Nat}{e:TypeId}{size n:Nat}{xs:List nU}(h:w.ownsRow base e size v n xs)(l:base'<=base):w.ownsRow base' e size v n xs:=by
 refine⟨h.1,?_⟩;rcases h.2 with o|⟨g,cap,i,rfl,j,rest⟩
 ·exact .inl o
 ·exact .inr ⟨g,cap,i,rfl,AY l j,rest⟩
def GN.later{w:nS}{g:Gz}(h:GN w v g)(p:Below w w w'):GN w' v g:=by obtain⟨i,j,l,o⟩:=h.Fg;exact⟨i,j.later p,l,o⟩
def GN.fit{w:nS}{g:Gz}(h:GN w v g):g.Fit:=by
 obtain⟨t,h1,R,rfl⟩:=h.Fg;obtain⟨l,-,-,o,-,-⟩:=Ou R;unfold Gm.B7 at l;simp only[Bool.and_eq_true,decide_eq_true_eq]at l;obtain⟨⟨C,I⟩,J,P⟩:=l;have hs:=UE o;have p:∀r∈(Gz.FN t).R,∃q∈t.R,r=(q.left.toNat,q.right.map Int.toNat):=fun r i=>by unfold Gz.FN at i;obtain⟨q,j,rfl⟩:=List.mem_map.1 i;exact⟨q,j,rfl⟩
 refine⟨C,I,by unfold Gz.FN;simpa using J,?_,?_,?_,?_⟩
 ·intro r i
  obtain⟨q,j,rfl⟩:=p r i;have:=List.all_eq_true.1 P q j;unfold Iu at this;simpa using this
 ·unfold Gz.top Gz.FN;simp only;omega
 ·intro r i
  obtain⟨q,j,rfl⟩:=p r i;have:=(LG o j).1;unfold Gz.top Gz.FN;simp only;omega
 ·intro r i x T
  obtain⟨q,j,rfl⟩:=p r i;obtain⟨y,U,rfl⟩:=List.mem_map.1 T;have:=(LG o j).2 y U;unfold Gz.top Gz.FN;simp only;omega
abbrev Bv(w:nS)(v:nU)(l:List Nat):Prop:=BD AS w v l
def lJ{w:nS}{l:List Int}(h:BD BZ w v l)(h0:∀x∈l,0<=x):Bv w v (l.map Int.toNat):=by obtain⟨⟨A,c,P,p⟩,J,I⟩:=h;refine⟨⟨A,c,by rw[P,lM],fun k x i=>?_⟩,by rw[lM];exact J,I⟩;rw[pG]at i;obtain⟨y,j,rfl⟩:=Option.map_eq_some_iff.1 i;obtain⟨b,off,o,C,t⟩:=p k y j;have:=h0 y (mG j);refine⟨b,off,o,C,?_⟩;rw[t];unfold BZ AS;rw[show ((y.toNat:Nat):Int)=y by omega]
def G4{w:nS}(h:w.ownsRow B 3 1 v l.length (l.map AS))(j:l.length<=4611686018427387904):Bv w v l:=by
 rcases Bg h with⟨rfl,h0⟩|⟨b,c,rfl,C,o,p,I,_⟩
 ·exact⟨⟨nK,0,by rw[h0],fun k x i=>by have:=(sG.1 i).1;omega⟩,j,fun A n c e=>by cases e;exact⟨AF _,fun _=>rfl⟩⟩
 ·refine⟨⟨_,c,rfl,fun k x i=>⟨b,0,rfl,o,?_⟩⟩,j,fun A n t e=>by cases e;exact⟨p,fun e=>by cases e⟩⟩
  have J:=(sG.1 i).1;rw[Nat.zero_add,Bb h k mR,pG,i];rfl
def GN.open_{w:nS}{g:Gz}(h:GN w v g):∃o t l p i j,v=.agg #[nC o g.nt t,nC l g.nn p,nC i g.R.length j,g.s] /\
  (∀k r,g.R[k]?=nJ r->∃b off rv,i=nJ ⟨b,off,nK⟩/\b<w.heap.size/\nQ w ⟨b,off+k*2,nK⟩=nJ (nE nM r.1)/\nQ w ⟨b,off+k*2+1,nK⟩=nJ rv/\Bv w rv r.2)/\g.R.length<=j:=by
 obtain⟨I,h1,h2,rfl⟩:=h.Fg;obtain⟨hf,-,-,P,-,-⟩:=Ou h2;obtain⟨o,t,l,p,i,j,hv,hT,hN,J⟩:=h1.open_;have a2:=UE P;refine⟨o,t,l,p,i,j,?_,?_,?_⟩
 ·rw[hv]
  unfold Gz.FN;simp only[lM];rw[show ((I.s.toNat:Nat):Int)=I.s by omega]
 ·intro k r C
  unfold Gz.FN at C;simp only[pG]at C;obtain⟨q,R,rfl⟩:=Option.map_eq_some_iff.1 C;obtain⟨⟨A,c,he,hc⟩,-,-⟩:=J;cases he
  obtain⟨b,off,hA,a0,T,U,e3⟩:=hc k q R;obtain⟨k1,k2⟩:=LG P (mG R);refine⟨b,off,q.v,hA,a0,?_,U,lJ e3 (fun x hx=>by have:=k2 x hx;omega)⟩;rw[T];simp only;rw[show ((q.left.toNat:Nat):Int)=q.left by omega]
 ·obtain⟨-,-,a1⟩:=J
  have:=(a1 _ _ _ rfl).1;unfold Gz.FN;simp only[lM];exact this
section
variable {w:nS} {v:nU} {g:Gz}
def LV(h:GN w v g):() 22 #[v] w fun e w'=>e=nP g.top/\Below w w w':=by obtain⟨l,i,o,rfl⟩:=h.Fg;refine(LO i).mono ?_;rintro e w' ⟨rfl,j⟩;exact⟨rfl,j⟩
def MD(h:GN w v g)(x:Nat):() 52 #[v,x] w (BF w (g.BK x)):=by
 obtain⟨i,j,l,rfl⟩:=h.Fg;have e:i.BK (x:Int)=(Gz.FN i).BK x:=by unfold Gm.BK Gz.BK Gz.top Gz.FN;rw[Bool.eq_iff_iff];simp only[Bool.and_eq_true,decide_eq_true_eq];omega
 rw[<-e];exact Lu j x
def Pt(h:GN w v g):() 68 #[v] w fun e w'=>e=nP (nE nM 0)/\Below w w w':=by obtain⟨o,j,l,rfl⟩:=h.Fg;refine(QE j).mono ?_;intro e w' i;rw[l]at i;exact i
def kN(h:GN w v g)(s:Nat):() 106 #[v,s] w fun e w'=>∃o,e=nP o/\Dp 3 w ((g.CF s).map AS) o w':=by
 obtain⟨j,I,J,rfl⟩:=h.Fg;refine(Qx I s).mono ?_;rintro e w' ⟨o,rfl,A,c,rfl,t,P⟩;obtain⟨U,-,-,T,-,-⟩:=Ou J;have p:(D0 j.R (s:Int) j.R.length).map BZ=((Gz.FN j).CF s).map AS:=by
  unfold D0 Gz.CF Gz.FN;simp only[List.map_map,lM];have C:(List.range j.R.length).filter (fun i=>(j.R[i]?.map (Gm.left (s:Int))).getD false)=(List.range j.R.length).filter (fun k=>((j.R.map fun r=>(r.left.toNat,r.right.map Int.toNat)).getD k (0,[])).1==s):=by apply List.filter_congr;intro k l;rw[List.mem_range]at l;rw[dG,pG,eG l];have:=(LG T (List.getElem_mem l)).1;simp only[Option.map_some,Option.getD_some,Gm.left];rw[Bool.eq_iff_iff,beq_iff_eq,beq_iff_eq];omega
  rw[C];rfl
 rw[p]at t;have R:=Et P;refine⟨_,rfl,A,c,by rw[<-p],?_,R⟩;exact DW t mV
end
def Mi{fn:Func}{p u:Tmp}{ty:TypeId}{P:Program}{w:nS}{tmps:Array nU}{a:Addr}(h:fn.results=#[.cell p ty,.tmp u])(i:tmps.getD p undef=nF (nJ a))(j:(loadVar ty a).run P w=.ok v w) :
  (results fn tmps).run P w=.ok (.tuple #[v,tmps.getD u undef]) w:=by
 rw[Array.getD_eq_getD_getElem?]at i;simp only[results,h];simp[Result.andThen,i,asAddr,j]
def MM{y:nS}{b:Nat}{u rv:nU}(h:nQ y (b,0)=nJ u)(i:nQ y (b,1)=nJ rv):(loadVar 145 (b,0)).run Tryz.prog y=.ok (.agg #[u,rv]) y:=by simp[go_sem,h,i]
def O6(w:nS)(g:Gz)(k:Nat)(e:Ending)(w':nS):Prop:=∃i,e=nP (.tuple #[.agg #[nE nM ((g.AX k).1:Nat),i],nI true])/\Bv w' i (g.right k)/\Below w w w'
def XQ{w:nS}{g:Gz}(h:GN w v g){k:Nat}(hk:k<=g.R.length):() 80 #[v,k] w (O6 w g k):=by
 have hf:=h.fit.nr;obtain⟨J,U,C,R,I,T,rfl,l,a0⟩:=h.open_;have HG:=Hd (Ah.new w 58 #[nC J g.nt U,nC C g.nn R,nC I g.R.length T,g.s]);by_cases p:k=g.R.length
 ·have i:g.AX k=(0,[g.s]):=by unfold Gz.AX;rw[if_pos p]
  unfold O6 Gz.right;rw[i];clear h l;generalize g.R.length=nR at *;subst p;generalize g.nt=nt at *;generalize g.nn=nn at *;generalize g.s=j at *;go_enter Tryz.func80,Tryz.ntmps80
  go_wp2_with fail
  refine bodyPost_ret (Mi rfl rfl (MM (b:=w.heap.size+1) (u:=nE nM 0) (rv:=nC (w.heap.size+1+1,0) 1 1) ?_ ?_)) rfl ?_
  ·exact(Ah.alloc (Ah.newAt mV) _).cell 0
  ·exact(Ah.alloc (Ah.newAt mV) _).cell 1
  ·refine⟨_,rfl,?_,((AE w _).alloc mV _).alloc mX _⟩
   refine G4 (B:=0) (l:=[j]) ?_ mV;refine⟨rfl,.inr ⟨w.heap.size+1+1,1,#[j],rfl,A0 _,?_,mV,mT,rfl,rfl⟩⟩;exact Ah.newAt mV
 ·obtain⟨r,t⟩:∃r,g.R[k]?=nJ r:=⟨_,eG mR⟩
  obtain⟨b,off,rv,rfl,hb,c0,c1,o⟩:=l k r t;have i:g.AX k=r:=by unfold Gz.AX;rw[if_neg p,dG,t];rfl
  unfold O6 Gz.right;rw[i];have P:=Hd o;obtain⟨⟨ra,rc,rfl,-⟩,-,-⟩:=id o;have a1:k<g.R.length:=by omega
  clear h l o t i;obtain⟨rl,rr⟩:=r;simp only at *;generalize rr.length=rn at *;generalize g.R.length=nR at *;generalize g.nt=nt at *;generalize g.nn=nn at *;generalize g.s=j at *;go_enter Tryz.func80,Tryz.ntmps80
  go_wp2_with fail
  refine bodyPost_ret (Mi rfl rfl (MM (b:=w.heap.size+1) (u:=nE nM rl) (rv:=nC ra rn rc) ?_ ?_)) rfl ?_
  ·exact(Ah.newAt mV).cell 0
  ·exact(Ah.newAt mV).cell 1
  ·exact⟨_,rfl,P.later (((AE w _).alloc mV _)),((AE w _).alloc mV _)⟩
def DC(E i:Nat):List Nat->List Nat->Bool->List Nat×Bool×Bool
 | [],C,m=>(C,m,true)
 | x::l,C,m=>
  if E.testBit x then DC E i l (C.set i (C.getD i 0|||C.getD x 0)) ((C.getD i 0|||C.getD x 0) != C.getD i 0||m)
  else(C.set i (C.getD i 0|||C.getD x 0),(C.getD i 0|||C.getD x 0) != C.getD i 0||m,false)
def Dz:List (Nat×List Nat)->Nat->List Nat->Bool->Nat×List Nat×Bool
 | [],E,C,more=>(E,C,more)
 | r::l,E,C,more=>
  match DC E r.1 r.2 C false with
  | (i,m,all)=>Dz l (if all then E|||2 ^ r.1 else E) i (more||((all&&!E.testBit r.1)||m))
def Gj(g:Gz):Nat->Nat->List Nat->Option (Nat×List Nat)
 | 0,_,_=>nK
 | f+1,E,C=>match Dz g.R E C false with
  | (j,i,true)=>Gj g f j i
  | (j,i,false)=>nJ (j,i)
def EM(g:Gz)(E o left:Nat):List Nat->List Nat->Bool->List Nat×Bool
 | [],C,more=>(C,more)
 | x::l,C,more=>
  if g.BK x then
   match DC E (o+x) l C false with
   | (i,m,true)=>EM g E o left l (i.set (o+x) (i.getD (o+x) 0|||i.getD (o+left) 0)) (more||((i.getD (o+x) 0|||i.getD (o+left) 0) != i.getD (o+x) 0||m))
   | (i,m,false)=>EM g E o left l i (more||m)
  else EM g E o left l C more
def FP(g:Gz)(E o:Nat):List (Nat×List Nat)->List Nat->Bool->List Nat×Bool
 | [],C,more=>(C,more)
 | r::l,C,more=>match EM g E o r.1 r.2 C false with|(i,m)=>FP g E o l i (more||m)
def Fp(g:Gz)(E o:Nat):Nat->List Nat->Option (List Nat)
 | 0,_=>nK
 | f+1,C=>match FP g E o g.R C false with
  | (i,true)=>Fp g E o f i
  | (i,false)=>nJ i
def JT(g:Gz):List Nat:=(List.range (g.top+1)).map (fun x=>if x<=g.nt then 2 ^ x else 0)++List.replicate (g.top+1) 0
def KG(g:Gz)(f:Nat):Option (Nat×List Nat):=
 match Gj g f 0 (JT g) with
 | none=>nK
 | some (E,C)=>match Fp g E (g.top+1) f (C.set (g.top+1+g.s) (C.getD (g.top+1+g.s) 0|||1)) with
  | none=>nK
  | some i=>nJ (E,i)
def Dm(E:Nat)(C:List Nat):List Nat->Nat->Nat×Bool
 | [],S=>(S,true)
 | x::l,S=>if E.testBit x then Dm E C l (S|||C.getD x 0) else(S|||C.getD x 0,false)
theorem Rg{E:Nat}{C:List Nat}:∀(l:List Nat) (S:Nat) (m:Bool),(∀x∈l,x<C.length)->∃I,DC E C.length l (C++[S]) m=(C++[(Dm E C l S).1],I,(Dm E C l S).2)
 | [],S,m,_=>⟨m,rfl⟩
 | x::l,S,m,h=>by
  have p:=h x mV;have i:(C++[S]).getD C.length 0=S:=by simp
  have j:(C++[S]).getD x 0=C.getD x 0:=by rw[dG,gL p,dG]
  have o:∀T,(C++[S]).set C.length T=C++[T]:=fun T=>by simp
  unfold DC Dm;rw[i,j,o];split
  ·exact Rg l _ _ (fun y t=>h y (by simp[t]))
  ·exact⟨_,rfl⟩
def G7{w:nS}{T:Nat}(h:AU w s S)(j:AU w t T)(i:t.n=s.n):() 197 #[s.v,t.v] w fun e w'=>e=nP (nI (S|||T != S))/\AU w' s (S|||T)/\Aj s.X w w':=by have e:CX S T (nW s.n)=S|||T:=gC h.fit (by rw[<-i];exact j.fit);rw[<-e];exact dK h j i
structure BA(w:nS)(n:Nat)(P:List AH)(C:List Nat):Prop where
 len:P.length=C.length
 room:∀p∈P,p.n=n
 at_:∀i p,P[i]?=nJ p->AU w p (C.getD i 0)
 apart:(P.map AH.wb).Nodup
variable{C:List Nat}
def Uh(h:l.Nodup){j a:Nat}(I:l[i]?=nJ a)(J:l[j]?=nJ a):i=j:=by obtain⟨t,o⟩:=sG.1 I;obtain⟨C,p⟩:=sG.1 J;exact(List.getElem_inj (h₀:=t) (h₁:=C) h).1 (o.trans p.symm)
def AU.head_ne{w:nS}{T:Nat}(h:AU w s S)(i:AU w t T):s.h≠t.wb:=Ah.Bh h.head i.words mT
def BA.EL{w:nS}{n:Nat}{P:List AH}(h:BA w n P C){T:Nat}(l:P[i]?=nJ p)(U:AU w' p T)(J:Aj p.X w w'):BA w' n P (C.set i T):=by
 have R:=(sG.1 l).1;refine⟨by rw[List.length_set];exact h.len,h.room,fun j q o=>?_,h.apart⟩;by_cases t:i=j
 ·subst t
  rw[l]at o;cases o
  rw[dG,tG (by rw[<-h.len];exact R)];exact U
 ·rw[dG,uG t,<-dG]
  have I:=h.at_ j q o;refine I.Ay J (I.head_ne (h.at_ i p l)) ?_;intro e;refine t (Uh h.apart (a:=p.wb) ?_ ?_)
  ·rw[pG,l];rfl
  ·rw[pG,o];exact congrArg nJ e
def BA.Ay{w:nS}{n:Nat}{P:List AH}{X:Nat->Prop}(h:BA w n P C)(o:Aj X w w')(l:∀p∈P,¬X p.h/\¬X p.wb):BA w' n P C:=
 ⟨h.len,h.room,fun i p j=>(h.at_ i p j).Ay o (l p (mG j)).1 (l p (mG j)).2,h.apart⟩
def BA.later{w:nS}{n:Nat}{P:List AH}(h:BA w n P C)(i:Below w w w'):BA w' n P C:=
 h.Ay (X:=fun _=>False) (Aj.AJ i) (fun _ _=>⟨id,id⟩)
def BA.lt{w:nS}{n:Nat}{P:List AH}(h:BA w n P C)(l:p∈P):p.h<w.heap.size/\p.wb<w.heap.size:=by obtain⟨i,j,rfl⟩:=List.mem_iff_getElem.1 l;have:=h.at_ i _ (eG j);exact⟨this.head.lt,this.words.lt⟩
def BA.push{w:nS}{n:Nat}{P:List AH}(h:BA w n P C){T:Nat}(I:Below w w w')(U:AU w' t T)(R:t.n=n)(a0:w.heap.size<=t.wb):BA w' n (P++[t]) (C++[T]):=by
 refine⟨by simp[h.len],?_,?_,?_⟩
 ·intro p j
  rw[mA,mS]at j;rcases j with j|rfl
  ·exact h.room p j
  ·exact R
 ·intro i p j
  by_cases o:i<P.length
  ·rw[gL o]at j
   rw[dG,gL (by rw[<-h.len];exact o),<-dG];exact(h.at_ i p j).later I
  ·have J:i=P.length:=by
    have:=(sG.1 j).1;simp at this;omega
   subst J;simp at j;subst j;rw[h.len];simpa using U
 ·rw[Bz,List.nodup_append]
  refine⟨h.apart,mV,?_⟩;intro a ha b l;simp at l;subst l;obtain⟨p,j,rfl⟩:=List.mem_map.1 ha;have:=(h.lt j).2;omega
def Zd(w:nS)(a b x:Nat):() 235 #[.agg #[a,b],x] w (BF w (decide (x<=b))):=by
 go_enter Tryz.func235,Tryz.ntmps235
 go_wp2;go_ret;exact⟨C9 mV,AE _ _⟩
def WU(w:nS)(a b x:Nat):() 237 #[.agg #[a,b],x] w (BF w (decide (a<x)&&decide (x<=b))):=by
 go_enter Tryz.func237,Tryz.ntmps237
 go_wp2;all_goals go_ret
 all_goals exact⟨C9 (by simp[*]),AE _ _⟩
def Tj:El Tryz.prog 250 254 1 8:=El.of (z:=nF nK) Tryz.underlying250 mU rfl mT
def AU.keeps{w:nS}(h:AU w s S)(i:AI B T w w')(j:296 ∉ T)(l:291 ∉ T):AU w' s S:=
 ⟨i.Ap h.head (.inr j),i.Ap h.words (.inr l),h.small,h.fit⟩
def BA.keeps{w:nS}{n:Nat}{P:List AH}(h:BA w n P C)(o:AI B T w w')(j:296 ∉ T)(l:291 ∉ T):BA w' n P C:=
 ⟨h.len,h.room,fun i p t=>(h.at_ i p t).keeps o j l,h.apart⟩
def BA.nil(w:nS)(n:Nat):BA w n [] (List.replicate 0 0):=⟨rfl,(fun p j=>by cases j),(fun i p j=>by cases j),List.nodup_nil⟩
def Jj(w:nS)(B:Nat)(v:nU)(P:List AH):Prop:=w.ownsRow B 254 1 v P.length (P.map AH.v)
structure LF(w:nS)(n k:Nat)(o:nU)(wr:nS):Prop where
 row:∃A c P,o=nC A k c/\P.length=k/\Jj wr w.heap.size (nC A k c) P/\BA wr n P (List.replicate k 0)/\(∀p∈P,w.heap.size<=p.h/\w.heap.size<=p.wb)
 below:Below w w wr
def lR{w:nS}{k n:Nat}(hk:k<=1000)(h1:1<=n)(h2:n<=4096):() 215 #[k,n] w fun e w'=>∃o,e=nP o/\LF w n k o w':=by
 have HN:=Hd (fun y=>LU (w:=y) h1 h2);go_enter Tryz.func215,Tryz.ntmps215
 go_wp2_with fail
 go_loopw [5,7] (fun o i wr=>∃j:Nat,j<=k/\i=nE nM j/\Hid (LF w n j o wr)) (fun _ i _=>k-(intOf i).toNat)
 case atStart=>refine⟨0,A0 _,rfl,Hd ⟨⟨nK,0,[],rfl,rfl,⟨rfl,.inl ⟨rfl,rfl⟩⟩,BA.nil _ _,fun a4 p=>by cases p⟩,Below.refl _ _⟩⟩
 case round=>
  obtain⟨j,hj,rfl,l⟩:=hrel;by_cases ab:j<k
  ·obtain⟨A,c,P,rfl,R,C,a0,a1⟩:=l.row
   have J:=Hd l.below;have a2:wr.ownsRow w 254 1 (nC A j c) j (P.map AH.v):=by unfold Jj at C;rw[R]at C;exact C
   have a7:=Hd a2;have a5:=Hd a0;have a6:=Hd a1;have HP:=Hd R;have a8:=Hd (Md 254 (wr.heap.size+1,0) rfl);clear C a2 a0 a1 R l;go_wp2_with (first
    | (
     go_at_call 192;refine(HN _).mono ?_;rintro e T ⟨rfl,hs,hb⟩
     have HS:=Hd hs;have t:=Hd hb;unfold AH.v;clear hs hb)
    | (
     at_builtin;refine Du Tj (.tmp 9) (.tmp 12) rfl rfl (base:=w.heap.size) (n:=j) (m:=1) (N:=j+1) (xs:=P.map AH.v) (news:=[nF (nJ ⟨wr.heap.size+1,0,nK⟩)]) rfl rfl ((AV a7 t).alloc _) (a8 _) rfl mW mR (by have:=J.size;have:=t.size;simp;omega) ?_
     intro U c2 w2 r1 I r3;have l:Hid (LF w n (j+1) (nC U (j+1) c2) w2):=Hd (by
      have a3:=J.size;have ae:=t.size;have ad:AU w2 ⟨wr.heap.size+1,wr.heap.size,n⟩ 0:=(HS.later (AE T _)).keeps I mT mT;have a9:=(a5.push (t:=⟨wr.heap.size+1,wr.heap.size,n⟩) (T:=0) t HS rfl (AF _))
      have aa:=(a9.later (AE T (.cells #[(wr.heap.size+1,0)] 254))).keeps I mT mT;refine⟨⟨U,c2,P++[⟨wr.heap.size+1,wr.heap.size,n⟩],rfl,by simp[HP.out],?_,?_,?_⟩,?_⟩
      ·unfold Jj
       rw[show (P++[(⟨wr.heap.size+1,wr.heap.size,n⟩:AH)]).length=j+1 by simp[HP.out],Bz];exact r1
      ·rw[List.replicate_succ']
       exact aa
      ·intro a4 p
       rw[mA,mS]at p;rcases p with p|rfl
       ·exact a6 a4 p
       ·exact⟨by show w.heap.size<=wr.heap.size+1;omega,a3⟩
      ·exact(J.trans (t.mono a3)).trans (((AE T _).mono mR).trans (I.below mX)))
     clear r1 I r3))
   go_roundw
   case rel=>exact⟨j+1,mR,mY,l⟩
   case measure=>simp[intOf];omega
  ·obtain rfl:j=k:=by omega
   go_wp2_with fail
   go_ret;exact⟨_,rfl,l⟩
structure Fs where
 q:Nat
 e:AH
 P:List AH
 bv:nU
 hv:nU
structure Dw(w:nS)(F:Fs)(g:Gz)(E:Nat):Prop where
 Ap:Ah w F.q 328 #[g.nt,g.top,F.e.v,F.bv,F.hv]
 e:AU w F.e E
 en:F.e.n=g.top+1
 Ii:F.P.length=2*(g.top+1)
 bv:Jj w 0 F.bv (F.P.take (g.top+1))
 hv:Jj w 0 F.hv (F.P.drop (g.top+1))
 top:g.top<=1000
variable{w:nS}{F:Fs}{g:Gz}{E:Nat}
def Dw.Ay(h:Dw w F g E)(i:Aj p.X w w')(j:AU w p S)(o:F.e.wb≠p.wb):Dw w' F g E:=
 ⟨i.Ap h.Ap (Ah.Bh h.Ap j.words mT),h.e.Ay i (h.e.head_ne j) o,h.en,h.Ii,
  i.own h.bv (fun k l e=>DL h.bv j.words mT (by rw[l,show k=p.wb from e])),
  i.own h.hv (fun k l e=>DL h.hv j.words mT (by rw[l,show k=p.wb from e])),h.top⟩
def Dw.later(h:Dw w F g E)(i:Below w w w'):Dw w' F g E:=
 ⟨h.Ap.below i h.Ap.lt,h.e.later i,h.en,h.Ii,AV h.bv i,AV h.hv i,h.top⟩
def IH{i:Type}{l:List i}{k:Nat}{a:i}(h:l[k]?=nJ a):l.drop k=a::l.drop (k+1):=by obtain⟨j,e⟩:=sG.1 h;rw[List.drop_eq_getElem_cons j,e]
def Jj.at_{P:List AH}(h:Jj w B v P)(j:P[i]?=nJ p):∃g c,v=nC (nJ ⟨g,0,nK⟩) P.length c/\P.length<=c/\nQ w ⟨g,i,nK⟩=nJ p.v:=by
 have I:=(sG.1 j).1;rcases Bg h with⟨_,h0⟩|⟨g,c,rfl,o,t,l,C,-⟩
 ·omega
 ·refine⟨g,c,rfl,l,?_⟩
  have:=Bb h i mR;rw[this,pG,j];rfl
def Dw.open_(h:Dw w F g E):∃bg i l j,F.bv=nC (nJ ⟨bg,0,nK⟩) (g.top+1) i/\F.hv=nC (nJ ⟨l,0,nK⟩) (g.top+1) j/\g.top+1<=i/\g.top+1<=j:=by
 have J:=h.Ii;obtain⟨p,P⟩:∃p,(F.P.take (g.top+1))[0]?=nJ p:=⟨_,eG (by rw[List.length_take];omega)⟩
 obtain⟨q,R⟩:∃p,(F.P.drop (g.top+1))[0]?=nJ p:=⟨_,eG (by rw[List.length_drop];omega)⟩
 obtain⟨bg,i,o,t,-⟩:=h.bv.at_ P;obtain⟨l,j,C,I,-⟩:=h.hv.at_ R;rw[List.length_take,J,Nat.min_eq_left mR]at o t;rw[List.length_drop,J,show 2*(g.top+1)-(g.top+1)=g.top+1 by omega]at C I;exact⟨bg,i,l,j,o,C,t,I⟩
def Dw.cells(h:Dw w F g E):nQ w (F.q,0)=nJ (nE nM g.nt)/\nQ w (F.q,1)=nJ (nE nM g.top)/\nQ w (F.q,2)=nJ (nF (F.e.h,0))/\nQ w (F.q,3)=nJ F.bv/\nQ w (F.q,4)=nJ F.hv:=
 ⟨h.Ap.cell 0,h.Ap.cell 1,h.Ap.cell 2,h.Ap.cell 3,h.Ap.cell 4⟩
def Dw.L5{bg n j x:Nat}{q:AH}(h:Dw w F g E)(p:F.bv=nC (bg,0) n j)(o:F.P[x]?=nJ q)(C:x<=g.top):nQ w (bg,x)=nJ (nF (q.h,0)):=by
 obtain⟨t,c2,i,-,l⟩:=h.bv.at_ (i:=x) (p:=q) (by rw[List.getElem?_take,if_pos mR];exact o);rw[p]at i;cases i
 exact l
def Dw.M4{j n o x:Nat}{q:AH}(h:Dw w F g E)(t:F.hv=nC (j,0) n o)(p:F.P[g.top+1+x]?=nJ q)(I:x<=g.top):nQ w (j,x)=nJ (nF (q.h,0)):=by
 obtain⟨C,c2,i,-,l⟩:=h.hv.at_ (i:=x) (p:=q) (by rw[List.getElem?_drop];exact p);rw[t]at i;cases i
 exact l
def kB{x:Nat}(h:E.testBit x=true):DC E i (x::l) C m=DC E i l (C.set i (C.getD i 0|||C.getD x 0)) ((C.getD i 0|||C.getD x 0) != C.getD i 0||m):=by rw[DC,if_pos h]
def X6{x:Nat}(h:E.testBit x=false):DC E i (x::l) C m=(C.set i (C.getD i 0|||C.getD x 0),(C.getD i 0|||C.getD x 0) != C.getD i 0||m,false):=by rw[DC,if_neg (by simp[h])]
def Ox(w:nS)(n:Nat)(Q:List AH)(p:AH)(r:List Nat×Bool×Bool)(e:Ending)(w':nS):Prop:=e=nP (.tuple #[nI r.2.1,nI r.2.2])/\BA w' n Q r.1/\Aj p.X w w'
def OL{Q:List AH}(h:Dw w F g E)(hf:BA w (g.nt+1) Q C)(ar:F.P <+: Q)(hp:Q[i]?=nJ p)(aq:F.e.wb≠p.wb){lv:nU}(hl:Bv w lv l)(hx:∀x∈l,x<=g.top) :
  () 216 #[(F.q,0),p.v,lv] w (Ox w (g.nt+1) Q p (DC E i l C false)):=by
 have ad:=hf.at_ i p hp;have I:Hid (∀y,Aj p.X w y->Dw y F g E):=Hd (fun y t=>h.Ay t ad aq);obtain⟨⟨A,c,rfl,hc⟩,hs,az⟩:=hl;have au:=ad.words;have HC:Hid (∀y,Aj p.X w y->∀(k x:Nat),l[k]?=nJ x->∃b off,A=nJ ⟨b,off,nK⟩/\nQ y ⟨b,off+k,nK⟩=nJ (nE nM x)):=Hd (fun y t k x hk=>by
  obtain⟨b,off,hA,ab,aa⟩:=hc k x hk;refine⟨b,off,hA,?_⟩;have ay:b≠p.wb:=by rintro rfl;have:=aa;have h2:=au.cell (off+k);rw[h2]at this;unfold CP at this;rw[List.getElem?_toArray,pG]at this;obtain⟨z,_,hz⟩:=Option.map_eq_some_iff.1 this;cases hz
  rw[World.cell?_of_block (w:=w) (t.block b ab ay)];exact aa)
 have HX:=Hd hx;have av:=Hd hf;have HP:=Hd hp;have aw:=Hd ar;have b5:=h.top;obtain⟨bg,bc,hg,b4,a5,-,b3,-⟩:=h.open_;have b0:=h.Ii;clear hc hx ad au hf hp ar aq h az;unfold Ox;generalize hR:DC E i l C false=al;have HR:=Hd hR;clear hR;obtain⟨C',m',ax⟩:=al;simp only;unfold AH.v;go_enter Tryz.func216,Tryz.ntmps216
 go_wp2_with fail
 go_loopw [8,13] (fun mo ii wr=>∃(j:Nat) (o:List Nat) (m:Bool),j<=l.length/\ii=nE nM j/\mo=nI m/\Hid (BA wr (g.nt+1) Q o)/\Hid (Aj p.X w wr)/\Hid (DC E i (l.drop j) o m=(C',m',ax))) (fun _ ii _=>l.length-(intOf ii).toNat)
 case atStart=>exact⟨0,C,false,A0 _,rfl,rfl,av,Hd (Aj.refl _ _),HR⟩
 case round=>
  obtain⟨j,o,m,hj,rfl,rfl,a7,U,a0⟩:=hrel;by_cases ab:j<l.length
  ·have a3:=eG ab
   generalize l[j]=x at a3;have af:=HX x (mG a3);have ao:=IH a3;rw[ao]at a0;obtain⟨b,off,rfl,aa⟩:=HC wr U j x a3;obtain⟨q,ae⟩:∃q,F.P[x]?=nJ q:=⟨_,eG mR⟩
   have ai:=Hd ae;have HQ:Hid (Q[x]?=nJ q):=Hd (by obtain⟨al,hR⟩:=aw.out;rw[<-hR,gL mR];exact ae)
   obtain⟨q0,q1,-,-,-⟩:=(I wr U).cells;have ak:Hid (∀y,() 235 #[.agg #[g.nt,g.top],nE nM x] y (BF y true)):=Hd (fun y=>by have:=Zd y g.nt g.top x;rwa [decide_eq_true af]at this);have ah:Hid (∀y,BA y (g.nt+1) Q o->() 197 #[(p.h,0),(q.h,0)] y fun e w'=>e=nP (nI (o.getD i 0|||o.getD x 0 != o.getD i 0))/\BA w' (g.nt+1) Q (o.set i (o.getD i 0|||o.getD x 0))/\Aj p.X y w'):=Hd (fun y t=>by
    refine(G7 (t.at_ i p HP) (t.at_ x q HQ) ?_).mono ?_
    ·rw[t.room p (mG HP),t.room q (mG HQ)]
    ·rintro e w' ⟨he,h1,h2⟩
     exact⟨he,t.EL HP h1 h2,h2⟩)
   have ag:Hid (∀y,Aj p.X w y->() 236 #[(F.e.h,0),nE nM x] y fun e w'=>e=nP (nI (E.testBit x))/\w'=y):=Hd (fun y t=>WL (I y t).e (by rw[(I y t).en];omega));have a9:=Hd (fun h=>kB (E:=E) (i:=i) (x:=x) (l:=l.drop (j+1)) (C:=o) (m:=m) h);have a8:=Hd (fun h=>X6 (E:=E) (i:=i) (x:=x) (l:=l.drop (j+1)) (C:=o) (m:=m) h);clear a3 ao ae;generalize (o.getD i 0|||o.getD x 0 != o.getD i 0)=b1 at *;generalize o.set i (o.getD i 0|||o.getD x 0)=Cn at *;generalize an:E.testBit x=b2 at *;cases b2
   ·have T:=a8 rfl
    rw[a0.out]at T;cases T
    clear an a8 a9;cases b1
    all_goals go_wp2_with (first
     | (
      go_at_call 235;refine(ak _).mono ?_;rintro e w1 ⟨rfl,R⟩
      have P:=Hd (U.next (Aj.AJ R));have a6:=Hd (a7.later R);have d1:=(I w1 P).L5 a5 ai af;obtain⟨-,-,-,d2,-⟩:=(I w1 P).cells;rw[a5]at d2;clear R)
     | (
      go_at_call 197;refine(ah _ a6).mono ?_;rintro e w2 ⟨rfl,a2,a1⟩
      have J:=Hd (P.next a1);have a4:=Hd a2;obtain⟨-,-,d3,-,-⟩:=(I w2 J).cells;clear a2 a1)
     | (go_at_call 236;refine(ag _ J).mono ?_;rintro e w3 ⟨rfl,rfl⟩))
    all_goals go_ret2
    all_goals exact⟨rfl,a4,J⟩
   ·have T:=a9 rfl
    rw[a0.out]at T;have aj:=Hd T.symm;clear an a8 a9 T a0;cases b1
    all_goals go_wp2_with (first
     | (
      go_at_call 235;refine(ak _).mono ?_;rintro e w1 ⟨rfl,R⟩
      have P:=Hd (U.next (Aj.AJ R));have a6:=Hd (a7.later R);have d1:=(I w1 P).L5 a5 ai af;obtain⟨-,-,-,d2,-⟩:=(I w1 P).cells;rw[a5]at d2;clear R)
     | (
      go_at_call 197;refine(ah _ a6).mono ?_;rintro e w2 ⟨rfl,a2,a1⟩
      have J:=Hd (P.next a1);have a4:=Hd a2;obtain⟨-,-,d3,-,-⟩:=(I w2 J).cells;clear a2 a1)
     | (go_at_call 236;refine(ag _ J).mono ?_;rintro e w3 ⟨rfl,rfl⟩))
    all_goals go_roundw
    all_goals first
     | exact⟨j+1,Cn,m,mR,mY,rfl,a4,J,aj⟩
     | exact⟨j+1,Cn,true,mR,mY,rfl,a4,J,aj⟩
     | (simp[intOf];omega)
  ·obtain rfl:j=l.length:=by omega
   have e:=a0.out;rw[List.drop_length,DC]at e;cases e
   go_wp2_with fail
   go_ret2
   exact⟨rfl,a7,U⟩
