/- . -/
import Derived.Test.YtendpobbjjaopaaGreatDoorXae
import Derived.Test.YtendpobbjjaopaaGreatDoorXnm
set_option linter.all false
set_option maxRecDepth 100000
set_option maxHeartbeats 16000000
namespace Go.Proofs.YtendpobbjjaopaaGreatDoor
open Go.RowKit
open Value renaming slice→oG,int→oH,pointer→oI,bool→oK
open Option renaming some→oM,none→oN
open IntKind renaming i64→oO
open Ending renaming returned→oQ
open World renaming cell?→oT
open Go renaming World→oU,Value→oV
variable{w':oU}{l:List Nat}{B S i:Nat}{p t:AH}{T:List TypeId}{m:Bool}
structure Gz where
 nt:Nat
 nn:Nat
 s:Nat
 R:List (Nat×List Nat)
variable{s:AH}
abbrev It:=Nat×Nat
namespace Gz
def top(g:Gz):Nat:=g.nt+g.nn
def BW(g:Gz)(x:Nat):Bool:=decide (g.nt<x)&&decide (x<=g.top)
def Br(g:Gz)(k:Nat):Nat×List Nat:=if k=g.R.length then(0,[g.s]) else g.R.getD k (0,[])
def right(g:Gz)(k:Nat):List Nat:=(g.Br k).2
def CJ(g:Gz)(s:Nat):List Nat:=(List.range g.R.length).filter fun k=>(g.R.getD k (0,[])).1==s
end Gz
def Gz.Fv(i:Gm):Gz:=⟨i.T.length,i.N.length,i.s.toNat,i.R.map fun r=>(r.left.toNat,r.right.map Int.toNat)⟩
structure GN(w:oU)(v:oV)(g:Gz):Prop where
 F5:∃gm,Ev w v gm/\gm.check=0/\g=Gz.Fv gm
variable{v:oV}
structure Gz.Fit(g:Gz):Prop where
 nt:g.nt<=120
 nn:g.nn<=120
 nr:g.R.length<=300
 short:∀r∈g.R,r.2.length<=8
 start:g.nt<g.s/\g.s<=g.top
 left:∀r∈g.R,g.nt<r.1/\r.1<=g.top
 right:∀r∈g.R,∀x∈r.2,1<=x/\x<=g.top
def EN{w:oU}{base base':Nat}{e:TypeId}{size n:Nat}{xs:List oV}(h:w.ownsRow base e size v n xs)(l:base'<=base):w.ownsRow base' e size v n xs:=by
 refine⟨h.1,?_⟩;rcases h.2 with o|⟨g,cap,i,rfl,j,rest⟩
 ·exact .inl o
 ·exact .inr ⟨g,cap,i,rfl,AW l j,rest⟩
def GN.later{w:oU}{g:Gz}(h:GN w v g)(p:Below w w w'):GN w' v g:=by obtain⟨i,j,l,o⟩:=h.F5;exact⟨i,j.later p,l,o⟩
def GN.fit{w:oU}{g:Gz}(h:GN w v g):g.Fit:=by
 obtain⟨t,h1,R,rfl⟩:=h.F5;obtain⟨l,-,-,o,-,-⟩:=OT R;unfold Gm.Cm at l;simp only[Bool.and_eq_true,decide_eq_true_eq]at l;obtain⟨⟨C,I⟩,J,P⟩:=l;have hs:=Tw o;have p:∀r∈(Gz.Fv t).R,∃q∈t.R,r=(q.left.toNat,q.right.map Int.toNat):=fun r i=>by unfold Gz.Fv at i;obtain⟨q,j,rfl⟩:=List.mem_map.1 i;exact⟨q,j,rfl⟩
 refine⟨C,I,by unfold Gz.Fv;simpa using J,?_,?_,?_,?_⟩
 ·intro r i
  obtain⟨q,j,rfl⟩:=p r i;have:=List.all_eq_true.1 P q j;unfold IQ at this;simpa using this
 ·unfold Gz.top Gz.Fv;simp only;omega
 ·intro r i
  obtain⟨q,j,rfl⟩:=p r i;have:=(LY o j).1;unfold Gz.top Gz.Fv;simp only;omega
 ·intro r i x T
  obtain⟨q,j,rfl⟩:=p r i;obtain⟨y,U,rfl⟩:=List.mem_map.1 T;have:=(LY o j).2 y U;unfold Gz.top Gz.Fv;simp only;omega
abbrev BF(w:oU)(v:oV)(l:List Nat):Prop:=BH AY w v l
def nI{w:oU}{l:List Int}(h:BH B4 w v l)(h0:∀x∈l,0<=x):BF w v (l.map Int.toNat):=by obtain⟨⟨A,c,P,p⟩,J,I⟩:=h;refine⟨⟨A,c,by rw[P,lM],fun k x i=>?_⟩,by rw[lM];exact J,I⟩;rw[pG]at i;obtain⟨y,j,rfl⟩:=Option.map_eq_some_iff.1 i;obtain⟨b,off,o,C,t⟩:=p k y j;have:=h0 y (mG j);refine⟨b,off,o,C,?_⟩;rw[t];unfold B4 AY;rw[show ((y.toNat:Nat):Int)=y by omega]
def Hi{w:oU}(h:w.ownsRow B 3 1 v l.length (l.map AY))(j:l.length<=4611686018427387904):BF w v l:=by
 rcases Bj h with⟨rfl,h0⟩|⟨b,c,rfl,C,o,p,I,_⟩
 ·exact⟨⟨oN,0,by rw[h0],fun k x i=>by have:=(sG.1 i).1;omega⟩,j,fun A n c e=>by cases e;exact⟨Ay _,fun _=>rfl⟩⟩
 ·refine⟨⟨_,c,rfl,fun k x i=>⟨b,0,rfl,o,?_⟩⟩,j,fun A n t e=>by cases e;exact⟨p,fun e=>by cases e⟩⟩
  have J:=(sG.1 i).1;rw[Nat.zero_add,Bh h k nX,pG,i];rfl
def GN.open_{w:oU}{g:Gz}(h:GN w v g):∃o t l p i j,v=.agg #[oG o g.nt t,oG l g.nn p,oG i g.R.length j,g.s] /\
  (∀k r,g.R[k]?=oM r->∃b off rv,i=oM ⟨b,off,oN⟩/\b<w.heap.size/\oT w ⟨b,off+k*2,oN⟩=oM (oH oO r.1)/\oT w ⟨b,off+k*2+1,oN⟩=oM rv/\BF w rv r.2)/\g.R.length<=j:=by
 obtain⟨I,h1,h2,rfl⟩:=h.F5;obtain⟨hf,-,-,P,-,-⟩:=OT h2;obtain⟨o,t,l,p,i,j,hv,hT,hN,J⟩:=h1.open_;have a2:=Tw P;refine⟨o,t,l,p,i,j,?_,?_,?_⟩
 ·rw[hv]
  unfold Gz.Fv;simp only[lM];rw[show ((I.s.toNat:Nat):Int)=I.s by omega]
 ·intro k r C
  unfold Gz.Fv at C;simp only[pG]at C;obtain⟨q,R,rfl⟩:=Option.map_eq_some_iff.1 C;obtain⟨⟨A,c,he,hc⟩,-,-⟩:=J;cases he
  obtain⟨b,off,hA,a0,T,U,e3⟩:=hc k q R;obtain⟨k1,k2⟩:=LY P (mG R);refine⟨b,off,q.v,hA,a0,?_,U,nI e3 (fun x hx=>by have:=k2 x hx;omega)⟩;rw[T];simp only;rw[show ((q.left.toNat:Nat):Int)=q.left by omega]
 ·obtain⟨-,-,a1⟩:=J
  have:=(a1 _ _ _ rfl).1;unfold Gz.Fv;simp only[lM];exact this
section
variable {w:oU} {v:oV} {g:Gz}
def LJ(h:GN w v g):() 129 #[v] w fun e w'=>e=oQ g.top/\Below w w w':=by obtain⟨l,i,o,rfl⟩:=h.F5;refine(Nc i).mono ?_;rintro e w' ⟨rfl,j⟩;exact⟨rfl,j⟩
def NA(h:GN w v g)(x:Nat):() 168 #[v,x] w (BI w (g.BW x)):=by
 obtain⟨i,j,l,rfl⟩:=h.F5;have e:i.BW (x:Int)=(Gz.Fv i).BW x:=by unfold Gm.BW Gz.BW Gz.top Gz.Fv;rw[Bool.eq_iff_iff];simp only[Bool.and_eq_true,decide_eq_true_eq];omega
 rw[<-e];exact MZ j x
def Pq(h:GN w v g):() 124 #[v] w fun e w'=>e=oQ (oH oO 0)/\Below w w w':=by obtain⟨o,j,l,rfl⟩:=h.F5;refine(Yz j).mono ?_;intro e w' i;rw[l]at i;exact i
def eV(h:GN w v g)(s:Nat):() 173 #[v,s] w fun e w'=>∃o,e=oQ o/\Dp 3 w ((g.CJ s).map AY) o w':=by
 obtain⟨j,I,J,rfl⟩:=h.F5;refine(Rh I s).mono ?_;rintro e w' ⟨o,rfl,A,c,rfl,t,P⟩;obtain⟨U,-,-,T,-,-⟩:=OT J;have p:(Eb j.R (s:Int) j.R.length).map B4=((Gz.Fv j).CJ s).map AY:=by
  unfold Eb Gz.CJ Gz.Fv;simp only[List.map_map,lM];have C:(List.range j.R.length).filter (fun i=>(j.R[i]?.map (Gm.left (s:Int))).getD false)=(List.range j.R.length).filter (fun k=>((j.R.map fun r=>(r.left.toNat,r.right.map Int.toNat)).getD k (0,[])).1==s):=by apply List.filter_congr;intro k l;rw[List.mem_range]at l;rw[dG,pG,eG l];have:=(LY T (List.getElem_mem l)).1;simp only[Option.map_some,Option.getD_some,Gm.left];rw[Bool.eq_iff_iff,beq_iff_eq,beq_iff_eq];omega
  rw[C];rfl
 rw[p]at t;have R:=Fy P;refine⟨_,rfl,A,c,by rw[<-p],?_,R⟩;exact EN t oA
end
def ME{fn:Func}{p u:Tmp}{ty:TypeId}{P:Program}{w:oU}{tmps:Array oV}{a:Addr}(h:fn.results=#[.cell p ty,.tmp u])(i:tmps.getD p undef=oI (oM a))(j:(loadVar ty a).run P w=.ok v w) :
  (results fn tmps).run P w=.ok (.tuple #[v,tmps.getD u undef]) w:=by
 rw[Array.getD_eq_getD_getElem?]at i;simp only[results,h];simp[Result.andThen,i,asAddr,j]
def Mw{y:oU}{b:Nat}{u rv:oV}(h:oT y (b,0)=oM u)(i:oT y (b,1)=oM rv):(loadVar 113 (b,0)).run Tryz.prog y=.ok (.agg #[u,rv]) y:=by simp[go_sem,h,i]
def OD(w:oU)(g:Gz)(k:Nat)(e:Ending)(w':oU):Prop:=∃i,e=oQ (.tuple #[.agg #[oH oO ((g.Br k).1:Nat),i],oK true])/\BF w' i (g.right k)/\Below w w w'
def lZ{w:oU}{g:Gz}(h:GN w v g){k:Nat}(hk:k<=g.R.length):() 59 #[v,k] w (OD w g k):=by
 have hf:=h.fit.nr;obtain⟨J,U,C,R,I,T,rfl,l,a0⟩:=h.open_;have HG:=Hd (Ah.new w 47 #[oG J g.nt U,oG C g.nn R,oG I g.R.length T,g.s]);by_cases p:k=g.R.length
 ·have i:g.Br k=(0,[g.s]):=by unfold Gz.Br;rw[if_pos p]
  unfold OD Gz.right;rw[i];clear h l;generalize g.R.length=nR at *;subst p;generalize g.nt=nt at *;generalize g.nn=nn at *;generalize g.s=j at *;go_enter Tryz.func59,Tryz.ntmps59
  go_wp2_with fail
  refine bodyPost_ret (ME rfl rfl (Mw (b:=w.heap.size+1) (u:=oH oO 0) (rv:=oG (w.heap.size+1+1,0) 1 1) ?_ ?_)) rfl ?_
  ·exact(Ah.alloc (Ah.newAt oA) _).cell 0
  ·exact(Ah.alloc (Ah.newAt oA) _).cell 1
  ·refine⟨_,rfl,?_,((AG w _).alloc oA _).alloc oC _⟩
   refine Hi (B:=0) (l:=[j]) ?_ oA;refine⟨rfl,.inr ⟨w.heap.size+1+1,1,#[j],rfl,AX _,?_,oA,nY,rfl,rfl⟩⟩;exact Ah.newAt oA
 ·obtain⟨r,t⟩:∃r,g.R[k]?=oM r:=⟨_,eG nX⟩
  obtain⟨b,off,rv,rfl,hb,c0,c1,o⟩:=l k r t;have i:g.Br k=r:=by unfold Gz.Br;rw[if_neg p,dG,t];rfl
  unfold OD Gz.right;rw[i];have P:=Hd o;obtain⟨⟨ra,rc,rfl,-⟩,-,-⟩:=id o;have a1:k<g.R.length:=by omega
  clear h l o t i;obtain⟨rl,rr⟩:=r;simp only at *;generalize rr.length=rn at *;generalize g.R.length=nR at *;generalize g.nt=nt at *;generalize g.nn=nn at *;generalize g.s=j at *;go_enter Tryz.func59,Tryz.ntmps59
  go_wp2_with fail
  refine bodyPost_ret (ME rfl rfl (Mw (b:=w.heap.size+1) (u:=oH oO rl) (rv:=oG ra rn rc) ?_ ?_)) rfl ?_
  ·exact(Ah.newAt oA).cell 0
  ·exact(Ah.newAt oA).cell 1
  ·exact⟨_,rfl,P.later (((AG w _).alloc oA _)),((AG w _).alloc oA _)⟩
def Dx(E i:Nat):List Nat->List Nat->Bool->List Nat×Bool×Bool
 | [],C,m=>(C,m,true)
 | x::l,C,m=>
  if E.testBit x then Dx E i l (C.set i (C.getD i 0|||C.getD x 0)) ((C.getD i 0|||C.getD x 0) != C.getD i 0||m)
  else(C.set i (C.getD i 0|||C.getD x 0),(C.getD i 0|||C.getD x 0) != C.getD i 0||m,false)
def DA:List (Nat×List Nat)->Nat->List Nat->Bool->Nat×List Nat×Bool
 | [],E,C,more=>(E,C,more)
 | r::l,E,C,more=>
  match Dx E r.1 r.2 C false with
  | (i,m,all)=>DA l (if all then E|||2 ^ r.1 else E) i (more||((all&&!E.testBit r.1)||m))
def Gh(g:Gz):Nat->Nat->List Nat->Option (Nat×List Nat)
 | 0,_,_=>oN
 | f+1,E,C=>match DA g.R E C false with
  | (j,i,true)=>Gh g f j i
  | (j,i,false)=>oM (j,i)
def EO(g:Gz)(E o left:Nat):List Nat->List Nat->Bool->List Nat×Bool
 | [],C,more=>(C,more)
 | x::l,C,more=>
  if g.BW x then
   match Dx E (o+x) l C false with
   | (i,m,true)=>EO g E o left l (i.set (o+x) (i.getD (o+x) 0|||i.getD (o+left) 0)) (more||((i.getD (o+x) 0|||i.getD (o+left) 0) != i.getD (o+x) 0||m))
   | (i,m,false)=>EO g E o left l i (more||m)
  else EO g E o left l C more
def F6(g:Gz)(E o:Nat):List (Nat×List Nat)->List Nat->Bool->List Nat×Bool
 | [],C,more=>(C,more)
 | r::l,C,more=>match EO g E o r.1 r.2 C false with|(i,m)=>F6 g E o l i (more||m)
def Fq(g:Gz)(E o:Nat):Nat->List Nat->Option (List Nat)
 | 0,_=>oN
 | f+1,C=>match F6 g E o g.R C false with
  | (i,true)=>Fq g E o f i
  | (i,false)=>oM i
def J3(g:Gz):List Nat:=(List.range (g.top+1)).map (fun x=>if x<=g.nt then 2 ^ x else 0)++List.replicate (g.top+1) 0
def Lp(g:Gz)(f:Nat):Option (Nat×List Nat):=
 match Gh g f 0 (J3 g) with
 | none=>oN
 | some (E,C)=>match Fq g E (g.top+1) f (C.set (g.top+1+g.s) (C.getD (g.top+1+g.s) 0|||1)) with
  | none=>oN
  | some i=>oM (E,i)
def Dr(E:Nat)(C:List Nat):List Nat->Nat->Nat×Bool
 | [],S=>(S,true)
 | x::l,S=>if E.testBit x then Dr E C l (S|||C.getD x 0) else(S|||C.getD x 0,false)
theorem Vw{E:Nat}{C:List Nat}:∀(l:List Nat) (S:Nat) (m:Bool),(∀x∈l,x<C.length)->∃I,Dx E C.length l (C++[S]) m=(C++[(Dr E C l S).1],I,(Dr E C l S).2)
 | [],S,m,_=>⟨m,rfl⟩
 | x::l,S,m,h=>by
  have p:=h x oA;have i:(C++[S]).getD C.length 0=S:=by simp
  have j:(C++[S]).getD x 0=C.getD x 0:=by rw[dG,gL p,dG]
  have o:∀T,(C++[S]).set C.length T=C++[T]:=fun T=>by simp
  unfold Dx Dr;rw[i,j,o];split
  ·exact Vw l _ _ (fun y t=>h y (by simp[t]))
  ·exact⟨_,rfl⟩
def G8{w:oU}{T:Nat}(h:AQ w s S)(j:AQ w t T)(i:t.n=s.n):() 189 #[s.v,t.v] w fun e w'=>e=oQ (oK (S|||T != S))/\AQ w' s (S|||T)/\Am s.X w w':=by have e:CY S T (nW s.n)=S|||T:=cU h.fit (by rw[<-i];exact j.fit);rw[<-e];exact V6 h j i
structure BD(w:oU)(n:Nat)(P:List AH)(C:List Nat):Prop where
 len:P.length=C.length
 room:∀p∈P,p.n=n
 at_:∀i p,P[i]?=oM p->AQ w p (C.getD i 0)
 apart:(P.map AH.wb).Nodup
variable{C:List Nat}
def Ut(h:l.Nodup){j a:Nat}(I:l[i]?=oM a)(J:l[j]?=oM a):i=j:=by obtain⟨t,o⟩:=sG.1 I;obtain⟨C,p⟩:=sG.1 J;exact(List.getElem_inj (h₀:=t) (h₁:=C) h).1 (o.trans p.symm)
def AQ.head_ne{w:oU}{T:Nat}(h:AQ w s S)(i:AQ w t T):s.h≠t.wb:=Ah.Bb h.head i.words nY
def BD.E0{w:oU}{n:Nat}{P:List AH}(h:BD w n P C){T:Nat}(l:P[i]?=oM p)(U:AQ w' p T)(J:Am p.X w w'):BD w' n P (C.set i T):=by
 have R:=(sG.1 l).1;refine⟨by rw[List.length_set];exact h.len,h.room,fun j q o=>?_,h.apart⟩;by_cases t:i=j
 ·subst t
  rw[l]at o;cases o
  rw[dG,tG (by rw[<-h.len];exact R)];exact U
 ·rw[dG,uG t,<-dG]
  have I:=h.at_ j q o;refine I.AA J (I.head_ne (h.at_ i p l)) ?_;intro e;refine t (Ut h.apart (a:=p.wb) ?_ ?_)
  ·rw[pG,l];rfl
  ·rw[pG,o];exact congrArg oM e
def BD.AA{w:oU}{n:Nat}{P:List AH}{X:Nat->Prop}(h:BD w n P C)(o:Am X w w')(l:∀p∈P,¬X p.h/\¬X p.wb):BD w' n P C:=
 ⟨h.len,h.room,fun i p j=>(h.at_ i p j).AA o (l p (mG j)).1 (l p (mG j)).2,h.apart⟩
def BD.later{w:oU}{n:Nat}{P:List AH}(h:BD w n P C)(i:Below w w w'):BD w' n P C:=
 h.AA (X:=fun _=>False) (Am.AJ i) (fun _ _=>⟨id,id⟩)
def BD.lt{w:oU}{n:Nat}{P:List AH}(h:BD w n P C)(l:p∈P):p.h<w.heap.size/\p.wb<w.heap.size:=by obtain⟨i,j,rfl⟩:=List.mem_iff_getElem.1 l;have:=h.at_ i _ (eG j);exact⟨this.head.lt,this.words.lt⟩
def BD.push{w:oU}{n:Nat}{P:List AH}(h:BD w n P C){T:Nat}(I:Below w w w')(U:AQ w' t T)(R:t.n=n)(a0:w.heap.size<=t.wb):BD w' n (P++[t]) (C++[T]):=by
 refine⟨by simp[h.len],?_,?_,?_⟩
 ·intro p j
  rw[mA,mS]at j;rcases j with j|rfl
  ·exact h.room p j
  ·exact R
 ·intro i p j
  by_cases o:i<P.length
  ·rw[gL o]at j
   rw[dG,gL (by rw[<-h.len];exact o),<-dG];exact(h.at_ i p j).later I
  ·have J:i=P.length:=by
    have:=(sG.1 j).1;simp at this;omega
   subst J;simp at j;subst j;rw[h.len];simpa using U
 ·rw[BB,List.nodup_append]
  refine⟨h.apart,oA,?_⟩;intro a ha b l;simp at l;subst l;obtain⟨p,j,rfl⟩:=List.mem_map.1 ha;have:=(h.lt j).2;omega
def cV(w:oU)(a b x:Nat):() 230 #[.agg #[a,b],x] w (BI w (decide (x<=b))):=by
 go_enter Tryz.func230,Tryz.ntmps230
 go_wp2;go_ret;exact⟨Cr oA,AG _ _⟩
def mu(w:oU)(a b x:Nat):() 232 #[.agg #[a,b],x] w (BI w (decide (a<x)&&decide (x<=b))):=by
 go_enter Tryz.func232,Tryz.ntmps232
 go_wp2;all_goals go_ret
 all_goals exact⟨Cr (by simp[*]),AG _ _⟩
def TU:El Tryz.prog 214 218 1 8:=El.of (z:=oI oN) Tryz.underlying214 nZ rfl nY
def AQ.keeps{w:oU}(h:AQ w s S)(i:AI B T w w')(j:269 ∉ T)(l:264 ∉ T):AQ w' s S:=
 ⟨i.Aj h.head (.inr j),i.Aj h.words (.inr l),h.small,h.fit⟩
def BD.keeps{w:oU}{n:Nat}{P:List AH}(h:BD w n P C)(o:AI B T w w')(j:269 ∉ T)(l:264 ∉ T):BD w' n P C:=
 ⟨h.len,h.room,fun i p t=>(h.at_ i p t).keeps o j l,h.apart⟩
def BD.nil(w:oU)(n:Nat):BD w n [] (List.replicate 0 0):=⟨rfl,(fun p j=>by cases j),(fun i p j=>by cases j),List.nodup_nil⟩
def JC(w:oU)(B:Nat)(v:oV)(P:List AH):Prop:=w.ownsRow B 218 1 v P.length (P.map AH.v)
structure L1(w:oU)(n k:Nat)(o:oV)(wr:oU):Prop where
 row:∃A c P,o=oG A k c/\P.length=k/\JC wr w.heap.size (oG A k c) P/\BD wr n P (List.replicate k 0)/\(∀p∈P,w.heap.size<=p.h/\w.heap.size<=p.wb)
 below:Below w w wr
def eJ{w:oU}{k n:Nat}(hk:k<=1000)(h1:1<=n)(h2:n<=4096):() 214 #[k,n] w fun e w'=>∃o,e=oQ o/\L1 w n k o w':=by
 have HN:=Hd (fun y=>Mm (w:=y) h1 h2);go_enter Tryz.func214,Tryz.ntmps214
 go_wp2_with fail
 go_loopw [5,7] (fun o i wr=>∃j:Nat,j<=k/\i=oH oO j/\Hid (L1 w n j o wr)) (fun _ i _=>k-(intOf i).toNat)
 case atStart=>refine⟨0,AX _,rfl,Hd ⟨⟨oN,0,[],rfl,rfl,⟨rfl,.inl ⟨rfl,rfl⟩⟩,BD.nil _ _,fun a4 p=>by cases p⟩,Below.refl _ _⟩⟩
 case round=>
  obtain⟨j,hj,rfl,l⟩:=hrel;by_cases ab:j<k
  ·obtain⟨A,c,P,rfl,R,C,a0,a1⟩:=l.row
   have J:=Hd l.below;have a2:wr.ownsRow w 218 1 (oG A j c) j (P.map AH.v):=by unfold JC at C;rw[R]at C;exact C
   have a7:=Hd a2;have a5:=Hd a0;have a6:=Hd a1;have HP:=Hd R;have a8:=Hd (Lu 218 (wr.heap.size+1,0) rfl);clear C a2 a0 a1 R l;go_wp2_with (first
    | (
     go_at_call 184;refine(HN _).mono ?_;rintro e T ⟨rfl,hs,hb⟩
     have HS:=Hd hs;have t:=Hd hb;unfold AH.v;clear hs hb)
    | (
     at_builtin;refine DC TU (.tmp 9) (.tmp 12) rfl rfl (base:=w.heap.size) (n:=j) (m:=1) (N:=j+1) (xs:=P.map AH.v) (news:=[oI (oM ⟨wr.heap.size+1,0,oN⟩)]) rfl rfl ((AU a7 t).alloc _) (a8 _) rfl oB nX (by have:=J.size;have:=t.size;simp;omega) ?_
     intro U c2 w2 r1 I r3;have l:Hid (L1 w n (j+1) (oG U (j+1) c2) w2):=Hd (by
      have a3:=J.size;have ae:=t.size;have ad:AQ w2 ⟨wr.heap.size+1,wr.heap.size,n⟩ 0:=(HS.later (AG T _)).keeps I nY nY;have a9:=(a5.push (t:=⟨wr.heap.size+1,wr.heap.size,n⟩) (T:=0) t HS rfl (Ay _))
      have aa:=(a9.later (AG T (.cells #[(wr.heap.size+1,0)] 218))).keeps I nY nY;refine⟨⟨U,c2,P++[⟨wr.heap.size+1,wr.heap.size,n⟩],rfl,by simp[HP.out],?_,?_,?_⟩,?_⟩
      ·unfold JC
       rw[show (P++[(⟨wr.heap.size+1,wr.heap.size,n⟩:AH)]).length=j+1 by simp[HP.out],BB];exact r1
      ·rw[List.replicate_succ']
       exact aa
      ·intro a4 p
       rw[mA,mS]at p;rcases p with p|rfl
       ·exact a6 a4 p
       ·exact⟨by show w.heap.size<=wr.heap.size+1;omega,a3⟩
      ·exact(J.trans (t.mono a3)).trans (((AG T _).mono nX).trans (I.below oC)))
     clear r1 I r3))
   go_roundw
   case rel=>exact⟨j+1,nX,oD,l⟩
   case measure=>simp[intOf];omega
  ·obtain rfl:j=k:=by omega
   go_wp2_with fail
   go_ret;exact⟨_,rfl,l⟩
structure Fs where
 q:Nat
 e:AH
 P:List AH
 bv:oV
 hv:oV
structure Dv(w:oU)(F:Fs)(g:Gz)(E:Nat):Prop where
 Aj:Ah w F.q 299 #[g.nt,g.top,F.e.v,F.bv,F.hv]
 e:AQ w F.e E
 en:F.e.n=g.top+1
 Ih:F.P.length=2*(g.top+1)
 bv:JC w 0 F.bv (F.P.take (g.top+1))
 hv:JC w 0 F.hv (F.P.drop (g.top+1))
 top:g.top<=1000
variable{w:oU}{F:Fs}{g:Gz}{E:Nat}
def Dv.AA(h:Dv w F g E)(i:Am p.X w w')(j:AQ w p S)(o:F.e.wb≠p.wb):Dv w' F g E:=
 ⟨i.Aj h.Aj (Ah.Bb h.Aj j.words nY),h.e.AA i (h.e.head_ne j) o,h.en,h.Ih,
  i.own h.bv (fun k l e=>Du h.bv j.words nY (by rw[l,show k=p.wb from e])),
  i.own h.hv (fun k l e=>Du h.hv j.words nY (by rw[l,show k=p.wb from e])),h.top⟩
def Dv.later(h:Dv w F g E)(i:Below w w w'):Dv w' F g E:=
 ⟨h.Aj.below i h.Aj.lt,h.e.later i,h.en,h.Ih,AU h.bv i,AU h.hv i,h.top⟩
def I6{i:Type}{l:List i}{k:Nat}{a:i}(h:l[k]?=oM a):l.drop k=a::l.drop (k+1):=by obtain⟨j,e⟩:=sG.1 h;rw[List.drop_eq_getElem_cons j,e]
def JC.at_{P:List AH}(h:JC w B v P)(j:P[i]?=oM p):∃g c,v=oG (oM ⟨g,0,oN⟩) P.length c/\P.length<=c/\oT w ⟨g,i,oN⟩=oM p.v:=by
 have I:=(sG.1 j).1;rcases Bj h with⟨_,h0⟩|⟨g,c,rfl,o,t,l,C,-⟩
 ·omega
 ·refine⟨g,c,rfl,l,?_⟩
  have:=Bh h i nX;rw[this,pG,j];rfl
def Dv.open_(h:Dv w F g E):∃bg i l j,F.bv=oG (oM ⟨bg,0,oN⟩) (g.top+1) i/\F.hv=oG (oM ⟨l,0,oN⟩) (g.top+1) j/\g.top+1<=i/\g.top+1<=j:=by
 have J:=h.Ih;obtain⟨p,P⟩:∃p,(F.P.take (g.top+1))[0]?=oM p:=⟨_,eG (by rw[List.length_take];omega)⟩
 obtain⟨q,R⟩:∃p,(F.P.drop (g.top+1))[0]?=oM p:=⟨_,eG (by rw[List.length_drop];omega)⟩
 obtain⟨bg,i,o,t,-⟩:=h.bv.at_ P;obtain⟨l,j,C,I,-⟩:=h.hv.at_ R;rw[List.length_take,J,Nat.min_eq_left nX]at o t;rw[List.length_drop,J,show 2*(g.top+1)-(g.top+1)=g.top+1 by omega]at C I;exact⟨bg,i,l,j,o,C,t,I⟩
def Dv.cells(h:Dv w F g E):oT w (F.q,0)=oM (oH oO g.nt)/\oT w (F.q,1)=oM (oH oO g.top)/\oT w (F.q,2)=oM (oI (F.e.h,0))/\oT w (F.q,3)=oM F.bv/\oT w (F.q,4)=oM F.hv:=
 ⟨h.Aj.cell 0,h.Aj.cell 1,h.Aj.cell 2,h.Aj.cell 3,h.Aj.cell 4⟩
def Dv.Nl{bg n j x:Nat}{q:AH}(h:Dv w F g E)(p:F.bv=oG (bg,0) n j)(o:F.P[x]?=oM q)(C:x<=g.top):oT w (bg,x)=oM (oI (q.h,0)):=by
 obtain⟨t,c2,i,-,l⟩:=h.bv.at_ (i:=x) (p:=q) (by rw[List.getElem?_take,if_pos nX];exact o);rw[p]at i;cases i
 exact l
def Dv.Nf{j n o x:Nat}{q:AH}(h:Dv w F g E)(t:F.hv=oG (j,0) n o)(p:F.P[g.top+1+x]?=oM q)(I:x<=g.top):oT w (j,x)=oM (oI (q.h,0)):=by
 obtain⟨C,c2,i,-,l⟩:=h.hv.at_ (i:=x) (p:=q) (by rw[List.getElem?_drop];exact p);rw[t]at i;cases i
 exact l
def Y4{x:Nat}(h:E.testBit x=true):Dx E i (x::l) C m=Dx E i l (C.set i (C.getD i 0|||C.getD x 0)) ((C.getD i 0|||C.getD x 0) != C.getD i 0||m):=by rw[Dx,if_pos h]
def kO{x:Nat}(h:E.testBit x=false):Dx E i (x::l) C m=(C.set i (C.getD i 0|||C.getD x 0),(C.getD i 0|||C.getD x 0) != C.getD i 0||m,false):=by rw[Dx,if_neg (by simp[h])]
def Px(w:oU)(n:Nat)(Q:List AH)(p:AH)(r:List Nat×Bool×Bool)(e:Ending)(w':oU):Prop:=e=oQ (.tuple #[oK r.2.1,oK r.2.2])/\BD w' n Q r.1/\Am p.X w w'
def PB{Q:List AH}(h:Dv w F g E)(hf:BD w (g.nt+1) Q C)(ar:F.P <+: Q)(hp:Q[i]?=oM p)(aq:F.e.wb≠p.wb){lv:oV}(hl:BF w lv l)(hx:∀x∈l,x<=g.top) :
  () 215 #[(F.q,0),p.v,lv] w (Px w (g.nt+1) Q p (Dx E i l C false)):=by
 have ad:=hf.at_ i p hp;have I:Hid (∀y,Am p.X w y->Dv y F g E):=Hd (fun y t=>h.AA t ad aq);obtain⟨⟨A,c,rfl,hc⟩,hs,az⟩:=hl;have au:=ad.words;have HC:Hid (∀y,Am p.X w y->∀(k x:Nat),l[k]?=oM x->∃b off,A=oM ⟨b,off,oN⟩/\oT y ⟨b,off+k,oN⟩=oM (oH oO x)):=Hd (fun y t k x hk=>by
  obtain⟨b,off,hA,ab,aa⟩:=hc k x hk;refine⟨b,off,hA,?_⟩;have ay:b≠p.wb:=by rintro rfl;have:=aa;have h2:=au.cell (off+k);rw[h2]at this;unfold CW at this;rw[List.getElem?_toArray,pG]at this;obtain⟨z,_,hz⟩:=Option.map_eq_some_iff.1 this;cases hz
  rw[World.cell?_of_block (w:=w) (t.block b ab ay)];exact aa)
 have HX:=Hd hx;have av:=Hd hf;have HP:=Hd hp;have aw:=Hd ar;have b5:=h.top;obtain⟨bg,bc,hg,b4,a5,-,b3,-⟩:=h.open_;have b0:=h.Ih;clear hc hx ad au hf hp ar aq h az;unfold Px;generalize hR:Dx E i l C false=al;have HR:=Hd hR;clear hR;obtain⟨C',m',ax⟩:=al;simp only;unfold AH.v;go_enter Tryz.func215,Tryz.ntmps215
 go_wp2_with fail
 go_loopw [8,13] (fun mo ii wr=>∃(j:Nat) (o:List Nat) (m:Bool),j<=l.length/\ii=oH oO j/\mo=oK m/\Hid (BD wr (g.nt+1) Q o)/\Hid (Am p.X w wr)/\Hid (Dx E i (l.drop j) o m=(C',m',ax))) (fun _ ii _=>l.length-(intOf ii).toNat)
 case atStart=>exact⟨0,C,false,AX _,rfl,rfl,av,Hd (Am.refl _ _),HR⟩
 case round=>
  obtain⟨j,o,m,hj,rfl,rfl,a7,U,a0⟩:=hrel;by_cases ab:j<l.length
  ·have a3:=eG ab
   generalize l[j]=x at a3;have af:=HX x (mG a3);have ao:=I6 a3;rw[ao]at a0;obtain⟨b,off,rfl,aa⟩:=HC wr U j x a3;obtain⟨q,ae⟩:∃q,F.P[x]?=oM q:=⟨_,eG nX⟩
   have ai:=Hd ae;have HQ:Hid (Q[x]?=oM q):=Hd (by obtain⟨al,hR⟩:=aw.out;rw[<-hR,gL nX];exact ae)
   obtain⟨q0,q1,-,-,-⟩:=(I wr U).cells;have ak:Hid (∀y,() 230 #[.agg #[g.nt,g.top],oH oO x] y (BI y true)):=Hd (fun y=>by have:=cV y g.nt g.top x;rwa [decide_eq_true af]at this);have ah:Hid (∀y,BD y (g.nt+1) Q o->() 189 #[(p.h,0),(q.h,0)] y fun e w'=>e=oQ (oK (o.getD i 0|||o.getD x 0 != o.getD i 0))/\BD w' (g.nt+1) Q (o.set i (o.getD i 0|||o.getD x 0))/\Am p.X y w'):=Hd (fun y t=>by
    refine(G8 (t.at_ i p HP) (t.at_ x q HQ) ?_).mono ?_
    ·rw[t.room p (mG HP),t.room q (mG HQ)]
    ·rintro e w' ⟨he,h1,h2⟩
     exact⟨he,t.E0 HP h1 h2,h2⟩)
   have ag:Hid (∀y,Am p.X w y->() 231 #[(F.e.h,0),oH oO x] y fun e w'=>e=oQ (oK (E.testBit x))/\w'=y):=Hd (fun y t=>Xy (I y t).e (by rw[(I y t).en];omega));have a9:=Hd (fun h=>Y4 (E:=E) (i:=i) (x:=x) (l:=l.drop (j+1)) (C:=o) (m:=m) h);have a8:=Hd (fun h=>kO (E:=E) (i:=i) (x:=x) (l:=l.drop (j+1)) (C:=o) (m:=m) h);clear a3 ao ae;generalize (o.getD i 0|||o.getD x 0 != o.getD i 0)=b1 at *;generalize o.set i (o.getD i 0|||o.getD x 0)=Cn at *;generalize an:E.testBit x=b2 at *;cases b2
   ·have T:=a8 rfl
    rw[a0.out]at T;cases T
    clear an a8 a9;cases b1
    all_goals go_wp2_with (first
     | (
      go_at_call 230;refine(ak _).mono ?_;rintro e w1 ⟨rfl,R⟩
      have P:=Hd (U.next (Am.AJ R));have a6:=Hd (a7.later R);have d1:=(I w1 P).Nl a5 ai af;obtain⟨-,-,-,d2,-⟩:=(I w1 P).cells;rw[a5]at d2;clear R)
     | (
      go_at_call 189;refine(ah _ a6).mono ?_;rintro e w2 ⟨rfl,a2,a1⟩
      have J:=Hd (P.next a1);have a4:=Hd a2;obtain⟨-,-,d3,-,-⟩:=(I w2 J).cells;clear a2 a1)
     | (go_at_call 231;refine(ag _ J).mono ?_;rintro e w3 ⟨rfl,rfl⟩))
    all_goals go_ret2
    all_goals exact⟨rfl,a4,J⟩
   ·have T:=a9 rfl
    rw[a0.out]at T;have aj:=Hd T.symm;clear an a8 a9 T a0;cases b1
    all_goals go_wp2_with (first
     | (
      go_at_call 230;refine(ak _).mono ?_;rintro e w1 ⟨rfl,R⟩
      have P:=Hd (U.next (Am.AJ R));have a6:=Hd (a7.later R);have d1:=(I w1 P).Nl a5 ai af;obtain⟨-,-,-,d2,-⟩:=(I w1 P).cells;rw[a5]at d2;clear R)
     | (
      go_at_call 189;refine(ah _ a6).mono ?_;rintro e w2 ⟨rfl,a2,a1⟩
      have J:=Hd (P.next a1);have a4:=Hd a2;obtain⟨-,-,d3,-,-⟩:=(I w2 J).cells;clear a2 a1)
     | (go_at_call 231;refine(ag _ J).mono ?_;rintro e w3 ⟨rfl,rfl⟩))
    all_goals go_roundw
    all_goals first
     | exact⟨j+1,Cn,m,nX,oD,rfl,a4,J,aj⟩
     | exact⟨j+1,Cn,true,nX,oD,rfl,a4,J,aj⟩
     | (simp[intOf];omega)
  ·obtain rfl:j=l.length:=by omega
   have e:=a0.out;rw[List.drop_length,Dx]at e;cases e
   go_wp2_with fail
   go_ret2
   exact⟨rfl,a7,U⟩
