/- Grammars that may be. A grammar's rule. What symbols begin with. What symbols begin with. What symbols begin with. -/
import Derived.Test.YtlogpnoioimhjaaGreatDoorXae
import Derived.Test.YtlogpnoioimhjaaGreatDoorXnm
set_option linter.all false
set_option maxRecDepth 100000
set_option maxHeartbeats 16000000
namespace Go.Proofs.YtlogpnoioimhjaaGreatDoor
open Go.RowKit
variable{w':World}{l:List Nat}{B S i:Nat}{p t:AH}{T:List TypeId}{m:Bool}
structure Gz where
 nt:Nat
 nn:Nat
 s:Nat
 R:List (Nat×List Nat)
variable{s:AH}
abbrev It:=Nat×Nat
namespace Gz
def top(g:Gz):Nat:=g.nt+g.nn
def BV(g:Gz)(x:Nat):Bool:=decide (g.nt<x)&&decide (x<=g.top)
def Bo(g:Gz)(k:Nat):Nat×List Nat:=if k=g.R.length then(0,[g.s]) else g.R.getD k (0,[])
def right(g:Gz)(k:Nat):List Nat:=(g.Bo k).2
def CD(g:Gz)(s:Nat):List Nat:=(List.range g.R.length).filter fun k=>(g.R.getD k (0,[])).1==s
end Gz
def Gz.FE(i:Gm):Gz:=⟨i.T.length,i.N.length,i.s.toNat,i.R.map fun r=>(r.left.toNat,r.right.map Int.toNat)⟩
structure GN(w:World)(v:Value)(g:Gz):Prop where
 Gd:∃gm,Et w v gm/\gm.check=0/\g=Gz.FE gm
variable{v:Value}
structure Gz.Fit(g:Gz):Prop where
 nt:g.nt<=120
 nn:g.nn<=120
 nr:g.R.length<=300
 short:∀r∈g.R,r.2.length<=8
 start:g.nt<g.s/\g.s<=g.top
 left:∀r∈g.R,g.nt<r.1/\r.1<=g.top
 right:∀r∈g.R,∀x∈r.2,1<=x/\x<=g.top
def EP{w:World}{base base':Nat}{e:TypeId}{size n:Nat}{xs:List Value}(h:w.ownsRow base e size v n xs)(l:base'<=base):w.ownsRow base' e size v n xs:=by
 refine⟨h.1,?_⟩;rcases h.2 with o|⟨g,cap,i,rfl,j,rest⟩
 ·exact .inl o
 ·exact .inr ⟨g,cap,i,rfl,AW l j,rest⟩
def GN.later{w:World}{g:Gz}(h:GN w v g)(p:Below w w w'):GN w' v g:=by obtain⟨i,j,l,o⟩:=h.Gd;exact⟨i,j.later p,l,o⟩
def GN.fit{w:World}{g:Gz}(h:GN w v g):g.Fit:=by
 obtain⟨t,h1,R,rfl⟩:=h.Gd;obtain⟨l,-,-,o,-,-⟩:=O1 R;unfold Gm.B7 at l;simp only[Bool.and_eq_true,decide_eq_true_eq]at l;obtain⟨⟨C,I⟩,J,P⟩:=l;have hs:=Qm o;have p:∀r∈(Gz.FE t).R,∃q∈t.R,r=(q.left.toNat,q.right.map Int.toNat):=fun r i=>by unfold Gz.FE at i;obtain⟨q,j,rfl⟩:=List.mem_map.1 i;exact⟨q,j,rfl⟩
 refine⟨C,I,by unfold Gz.FE;simpa using J,?_,?_,?_,?_⟩
 ·intro r i
  obtain⟨q,j,rfl⟩:=p r i;have:=List.all_eq_true.1 P q j;unfold IL at this;simpa using this
 ·unfold Gz.top Gz.FE;simp only;omega
 ·intro r i
  obtain⟨q,j,rfl⟩:=p r i;have:=(LA o j).1;unfold Gz.top Gz.FE;simp only;omega
 ·intro r i x T
  obtain⟨q,j,rfl⟩:=p r i;obtain⟨y,U,rfl⟩:=List.mem_map.1 T;have:=(LA o j).2 y U;unfold Gz.top Gz.FE;simp only;omega
abbrev BD(w:World)(v:Value)(l:List Nat):Prop:=BE AV w v l
def eH{w:World}{l:List Int}(h:BE B3 w v l)(h0:∀x∈l,0<=x):BD w v (l.map Int.toNat):=by obtain⟨⟨A,c,P,p⟩,J,I⟩:=h;refine⟨⟨A,c,by rw[P,lM],fun k x i=>?_⟩,by rw[lM];exact J,I⟩;rw[pG]at i;obtain⟨y,j,rfl⟩:=Option.map_eq_some_iff.1 i;obtain⟨b,off,o,C,t⟩:=p k y j;have:=h0 y (mG j);refine⟨b,off,o,C,?_⟩;rw[t];unfold B3 AV;rw[show ((y.toNat:Nat):Int)=y by omega]
def Hu{w:World}(h:w.ownsRow B 3 1 v l.length (l.map AV))(j:l.length<=4611686018427387904):BD w v l:=by
 rcases Bi h with⟨rfl,h0⟩|⟨b,c,rfl,C,o,p,I,_⟩
 ·exact⟨⟨none,0,by rw[h0],fun k x i=>by have:=(sG.1 i).1;omega⟩,j,fun A n c e=>by cases e;exact⟨AF _,fun _=>rfl⟩⟩
 ·refine⟨⟨_,c,rfl,fun k x i=>⟨b,0,rfl,o,?_⟩⟩,j,fun A n t e=>by cases e;exact⟨p,fun e=>by cases e⟩⟩
  have J:=(sG.1 i).1;rw[Nat.zero_add,Bh h k (by omega),pG,i];rfl
def GN.open_{w:World}{g:Gz}(h:GN w v g):∃o t l p i j,v=.agg #[.slice o g.nt t,.slice l g.nn p,.slice i g.R.length j,g.s] /\
  (∀k r,g.R[k]?=some r->∃b off rv,i=some ⟨b,off,none⟩/\b<w.heap.size/\w.cell? ⟨b,off+k*2,none⟩=some (.int .i64 r.1)/\w.cell? ⟨b,off+k*2+1,none⟩=some rv/\BD w rv r.2)/\g.R.length<=j:=by
 obtain⟨I,h1,h2,rfl⟩:=h.Gd;obtain⟨hf,-,-,P,-,-⟩:=O1 h2;obtain⟨o,t,l,p,i,j,hv,hT,hN,J⟩:=h1.open_;have a2:=Qm P;refine⟨o,t,l,p,i,j,?_,?_,?_⟩
 ·rw[hv]
  unfold Gz.FE;simp only[lM];rw[show ((I.s.toNat:Nat):Int)=I.s by omega]
 ·intro k r C
  unfold Gz.FE at C;simp only[pG]at C;obtain⟨q,R,rfl⟩:=Option.map_eq_some_iff.1 C;obtain⟨⟨A,c,he,hc⟩,-,-⟩:=J;cases he
  obtain⟨b,off,hA,a0,T,U,e3⟩:=hc k q R;obtain⟨k1,k2⟩:=LA P (mG R);refine⟨b,off,q.v,hA,a0,?_,U,eH e3 (fun x hx=>by have:=k2 x hx;omega)⟩;rw[T];simp only;rw[show ((q.left.toNat:Nat):Int)=q.left by omega]
 ·obtain⟨-,-,a1⟩:=J
  have:=(a1 _ _ _ rfl).1;unfold Gz.FE;simp only[lM];exact this
section
variable {w:World} {v:Value} {g:Gz}
def LB(h:GN w v g):() 103 #[v] w fun e w'=>e=.returned g.top/\Below w w w':=by obtain⟨l,i,o,rfl⟩:=h.Gd;refine(M3 i).mono ?_;rintro e w' ⟨rfl,j⟩;exact⟨rfl,j⟩
def Ml(h:GN w v g)(x:Nat):() 141 #[v,x] w (BB w (g.BV x)):=by
 obtain⟨i,j,l,rfl⟩:=h.Gd;have e:i.BV (x:Int)=(Gz.FE i).BV x:=by unfold Gm.BV Gz.BV Gz.top Gz.FE;rw[Bool.eq_iff_iff];simp only[Bool.and_eq_true,decide_eq_true_eq];omega
 rw[<-e];exact Mp j x
def NM(h:GN w v g):() 98 #[v] w fun e w'=>e=.returned (.int .i64 0)/\Below w w w':=by obtain⟨o,j,l,rfl⟩:=h.Gd;refine(ZO j).mono ?_;intro e w' i;rw[l]at i;exact i
def V0(h:GN w v g)(s:Nat):() 146 #[v,s] w fun e w'=>∃o,e=.returned o/\Dr 3 w ((g.CD s).map AV) o w':=by
 obtain⟨j,I,J,rfl⟩:=h.Gd;refine(Tm I s).mono ?_;rintro e w' ⟨o,rfl,A,c,rfl,t,P⟩;obtain⟨U,-,-,T,-,-⟩:=O1 J;have p:(D8 j.R (s:Int) j.R.length).map B3=((Gz.FE j).CD s).map AV:=by
  unfold D8 Gz.CD Gz.FE;simp only[List.map_map,lM];have C:(List.range j.R.length).filter (fun i=>(j.R[i]?.map (Gm.left (s:Int))).getD false)=(List.range j.R.length).filter (fun k=>((j.R.map fun r=>(r.left.toNat,r.right.map Int.toNat)).getD k (0,[])).1==s):=by apply List.filter_congr;intro k l;rw[List.mem_range]at l;rw[dG,pG,eG l];have:=(LA T (List.getElem_mem l)).1;simp only[Option.map_some,Option.getD_some,Gm.left];rw[Bool.eq_iff_iff,beq_iff_eq,beq_iff_eq];omega
  rw[C];rfl
 rw[p]at t;have R:=Fv P;refine⟨_,rfl,A,c,by rw[<-p],?_,R⟩;exact EP t (by simp)
end
def M7{fn:Func}{p u:Tmp}{ty:TypeId}{P:Program}{w:World}{tmps:Array Value}{a:Addr}(h:fn.results=#[.cell p ty,.tmp u])(i:tmps.getD p undef=.pointer (some a))(j:(loadVar ty a).run P w=.ok v w) :
  (results fn tmps).run P w=.ok (.tuple #[v,tmps.getD u undef]) w:=by
 rw[Array.getD_eq_getD_getElem?]at i;simp only[results,h];simp[Result.andThen,i,asAddr,j]
def Nk{y:World}{b:Nat}{u rv:Value}(h:y.cell? (b,0)=some u)(i:y.cell? (b,1)=some rv):(loadVar 119 (b,0)).run Tryz.prog y=.ok (.agg #[u,rv]) y:=by simp[go_sem,h,i]
def OE(w:World)(g:Gz)(k:Nat)(e:Ending)(w':World):Prop:=∃i,e=.returned (.tuple #[.agg #[.int .i64 ((g.Bo k).1:Nat),i],.bool true])/\BD w' i (g.right k)/\Below w w w'
def XD{w:World}{g:Gz}(h:GN w v g){k:Nat}(hk:k<=g.R.length):() 59 #[v,k] w (OE w g k):=by
 have hf:=h.fit.nr;obtain⟨J,U,C,R,I,T,rfl,l,a0⟩:=h.open_;have HG:=Hd (Ah.new w 58 #[.slice J g.nt U,.slice C g.nn R,.slice I g.R.length T,g.s]);by_cases p:k=g.R.length
 ·have i:g.Bo k=(0,[g.s]):=by unfold Gz.Bo;rw[if_pos p]
  unfold OE Gz.right;rw[i];clear h l;generalize g.R.length=nR at *;subst p;generalize g.nt=nt at *;generalize g.nn=nn at *;generalize g.s=j at *;go_enter Tryz.func59,Tryz.ntmps59
  go_wp2_with fail
  refine bodyPost_ret (M7 rfl rfl (Nk (b:=w.heap.size+1) (u:=.int .i64 0) (rv:=.slice (w.heap.size+1+1,0) 1 1) ?_ ?_)) rfl ?_
  ·exact(Ah.alloc (Ah.newAt (by simp)) _).cell 0
  ·exact(Ah.alloc (Ah.newAt (by simp)) _).cell 1
  ·refine⟨_,rfl,?_,((AG w _).alloc (by simp) _).alloc (by simp;omega) _⟩
   refine Hu (B:=0) (l:=[j]) ?_ (by simp);refine⟨rfl,.inr ⟨w.heap.size+1+1,1,#[j],rfl,AX _,?_,by simp,by decide,rfl,rfl⟩⟩;exact Ah.newAt (by simp)
 ·obtain⟨r,t⟩:∃r,g.R[k]?=some r:=⟨_,eG (by omega)⟩
  obtain⟨b,off,rv,rfl,hb,c0,c1,o⟩:=l k r t;have i:g.Bo k=r:=by unfold Gz.Bo;rw[if_neg p,dG,t];rfl
  unfold OE Gz.right;rw[i];have P:=Hd o;obtain⟨⟨ra,rc,rfl,-⟩,-,-⟩:=id o;have a1:k<g.R.length:=by omega
  clear h l o t i;obtain⟨rl,rr⟩:=r;simp only at *;generalize rr.length=rn at *;generalize g.R.length=nR at *;generalize g.nt=nt at *;generalize g.nn=nn at *;generalize g.s=j at *;go_enter Tryz.func59,Tryz.ntmps59
  go_wp2_with fail
  refine bodyPost_ret (M7 rfl rfl (Nk (b:=w.heap.size+1) (u:=.int .i64 rl) (rv:=.slice ra rn rc) ?_ ?_)) rfl ?_
  ·exact(Ah.newAt (by simp)).cell 0
  ·exact(Ah.newAt (by simp)).cell 1
  ·exact⟨_,rfl,P.later (((AG w _).alloc (by simp) _)),((AG w _).alloc (by simp) _)⟩
def DC(E i:Nat):List Nat->List Nat->Bool->List Nat×Bool×Bool
 | [],C,m=>(C,m,true)
 | x::l,C,m=>
  if E.testBit x then DC E i l (C.set i (C.getD i 0|||C.getD x 0)) ((C.getD i 0|||C.getD x 0) != C.getD i 0||m)
  else(C.set i (C.getD i 0|||C.getD x 0),(C.getD i 0|||C.getD x 0) != C.getD i 0||m,false)
def Dz:List (Nat×List Nat)->Nat->List Nat->Bool->Nat×List Nat×Bool
 | [],E,C,more=>(E,C,more)
 | r::l,E,C,more=>
  match DC E r.1 r.2 C false with
  | (i,m,all)=>Dz l (if all then E|||2 ^ r.1 else E) i (more||((all&&!E.testBit r.1)||m))
def Gp(g:Gz):Nat->Nat->List Nat->Option (Nat×List Nat)
 | 0,_,_=>none
 | f+1,E,C=>match Dz g.R E C false with
  | (j,i,true)=>Gp g f j i
  | (j,i,false)=>some (j,i)
def ET(g:Gz)(E o left:Nat):List Nat->List Nat->Bool->List Nat×Bool
 | [],C,more=>(C,more)
 | x::l,C,more=>
  if g.BV x then
   match DC E (o+x) l C false with
   | (i,m,true)=>ET g E o left l (i.set (o+x) (i.getD (o+x) 0|||i.getD (o+left) 0)) (more||((i.getD (o+x) 0|||i.getD (o+left) 0) != i.getD (o+x) 0||m))
   | (i,m,false)=>ET g E o left l i (more||m)
  else ET g E o left l C more
def FU(g:Gz)(E o:Nat):List (Nat×List Nat)->List Nat->Bool->List Nat×Bool
 | [],C,more=>(C,more)
 | r::l,C,more=>match ET g E o r.1 r.2 C false with|(i,m)=>FU g E o l i (more||m)
def Fo(g:Gz)(E o:Nat):Nat->List Nat->Option (List Nat)
 | 0,_=>none
 | f+1,C=>match FU g E o g.R C false with
  | (i,true)=>Fo g E o f i
  | (i,false)=>some i
def JM(g:Gz):List Nat:=(List.range (g.top+1)).map (fun x=>if x<=g.nt then 2 ^ x else 0)++List.replicate (g.top+1) 0
def KF(g:Gz)(f:Nat):Option (Nat×List Nat):=
 match Gp g f 0 (JM g) with
 | none=>none
 | some (E,C)=>match Fo g E (g.top+1) f (C.set (g.top+1+g.s) (C.getD (g.top+1+g.s) 0|||1)) with
  | none=>none
  | some i=>some (E,i)
def Dp(E:Nat)(C:List Nat):List Nat->Nat->Nat×Bool
 | [],S=>(S,true)
 | x::l,S=>if E.testBit x then Dp E C l (S|||C.getD x 0) else(S|||C.getD x 0,false)
theorem Sm{E:Nat}{C:List Nat}:∀(l:List Nat) (S:Nat) (m:Bool),(∀x∈l,x<C.length)->∃I,DC E C.length l (C++[S]) m=(C++[(Dp E C l S).1],I,(Dp E C l S).2)
 | [],S,m,_=>⟨m,rfl⟩
 | x::l,S,m,h=>by
  have p:=h x (by simp);have i:(C++[S]).getD C.length 0=S:=by simp
  have j:(C++[S]).getD x 0=C.getD x 0:=by rw[dG,gL p,dG]
  have o:∀T,(C++[S]).set C.length T=C++[T]:=fun T=>by simp
  unfold DC Dp;rw[i,j,o];split
  ·exact Sm l _ _ (fun y t=>h y (by simp[t]))
  ·exact⟨_,rfl⟩
def He{w:World}{T:Nat}(h:AP w s S)(j:AP w t T)(i:t.n=s.n):() 162 #[s.v,t.v] w fun e w'=>e=.returned (.bool (S|||T != S))/\AP w' s (S|||T)/\Aj s.X w w':=by have e:C0 S T (nW s.n)=S|||T:=WW h.fit (by rw[<-i];exact j.fit);rw[<-e];exact XZ h j i
structure Bw(w:World)(n:Nat)(P:List AH)(C:List Nat):Prop where
 len:P.length=C.length
 room:∀p∈P,p.n=n
 at_:∀i p,P[i]?=some p->AP w p (C.getD i 0)
 apart:(P.map AH.wb).Nodup
variable{C:List Nat}
def S0(h:l.Nodup){j a:Nat}(I:l[i]?=some a)(J:l[j]?=some a):i=j:=by obtain⟨t,o⟩:=sG.1 I;obtain⟨C,p⟩:=sG.1 J;exact(List.getElem_inj (h₀:=t) (h₁:=C) h).1 (o.trans p.symm)
def AP.head_ne{w:World}{T:Nat}(h:AP w s S)(i:AP w t T):s.h≠t.wb:=Ah.Bf h.head i.words (by decide)
def Bw.EY{w:World}{n:Nat}{P:List AH}(h:Bw w n P C){T:Nat}(l:P[i]?=some p)(U:AP w' p T)(J:Aj p.X w w'):Bw w' n P (C.set i T):=by
 have R:=(sG.1 l).1;refine⟨by rw[List.length_set];exact h.len,h.room,fun j q o=>?_,h.apart⟩;by_cases t:i=j
 ·subst t
  rw[l]at o;cases o
  rw[dG,tG (by rw[<-h.len];exact R)];exact U
 ·rw[dG,uG t,<-dG]
  have I:=h.at_ j q o;refine I.AE J (I.head_ne (h.at_ i p l)) ?_;intro e;refine t (S0 h.apart (a:=p.wb) ?_ ?_)
  ·rw[pG,l];rfl
  ·rw[pG,o];exact congrArg some e
def Bw.AE{w:World}{n:Nat}{P:List AH}{X:Nat->Prop}(h:Bw w n P C)(o:Aj X w w')(l:∀p∈P,¬X p.h/\¬X p.wb):Bw w' n P C:=
 ⟨h.len,h.room,fun i p j=>(h.at_ i p j).AE o (l p (mG j)).1 (l p (mG j)).2,h.apart⟩
def Bw.later{w:World}{n:Nat}{P:List AH}(h:Bw w n P C)(i:Below w w w'):Bw w' n P C:=
 h.AE (X:=fun _=>False) (Aj.AJ i) (fun _ _=>⟨id,id⟩)
def Bw.lt{w:World}{n:Nat}{P:List AH}(h:Bw w n P C)(l:p∈P):p.h<w.heap.size/\p.wb<w.heap.size:=by obtain⟨i,j,rfl⟩:=List.mem_iff_getElem.1 l;have:=h.at_ i _ (eG j);exact⟨this.head.lt,this.words.lt⟩
def Bw.push{w:World}{n:Nat}{P:List AH}(h:Bw w n P C){T:Nat}(I:Below w w w')(U:AP w' t T)(R:t.n=n)(a0:w.heap.size<=t.wb):Bw w' n (P++[t]) (C++[T]):=by
 refine⟨by simp[h.len],?_,?_,?_⟩
 ·intro p j
  rw[mA,mS]at j;rcases j with j|rfl
  ·exact h.room p j
  ·exact R
 ·intro i p j
  by_cases o:i<P.length
  ·rw[gL o]at j
   rw[dG,gL (by rw[<-h.len];exact o),<-dG];exact(h.at_ i p j).later I
  ·have J:i=P.length:=by
    have:=(sG.1 j).1;simp at this;omega
   subst J;simp at j;subst j;rw[h.len];simpa using U
 ·rw[By,List.nodup_append]
  refine⟨h.apart,by simp,?_⟩;intro a ha b l;simp at l;subst l;obtain⟨p,j,rfl⟩:=List.mem_map.1 ha;have:=(h.lt j).2;omega
def jJ(w:World)(a b x:Nat):() 202 #[.agg #[a,b],x] w (BB w (decide (x<=b))):=by
 go_enter Tryz.func202,Tryz.ntmps202
 go_wp2;go_ret;exact⟨CI (by simp),AG _ _⟩
def jH(w:World)(a b x:Nat):() 204 #[.agg #[a,b],x] w (BB w (decide (a<x)&&decide (x<=b))):=by
 go_enter Tryz.func204,Tryz.ntmps204
 go_wp2;all_goals go_ret
 all_goals exact⟨CI (by simp[*]),AG _ _⟩
def TS:El Tryz.prog 206 211 1 8:=El.of (z:=.pointer none) Tryz.underlying206 (by kernel_rfl) rfl (by decide)
def AP.keeps{w:World}(h:AP w s S)(i:AI B T w w')(j:261 ∉ T)(l:256 ∉ T):AP w' s S:=
 ⟨i.Ap h.head (.inr j),i.Ap h.words (.inr l),h.small,h.fit⟩
def Bw.keeps{w:World}{n:Nat}{P:List AH}(h:Bw w n P C)(o:AI B T w w')(j:261 ∉ T)(l:256 ∉ T):Bw w' n P C:=
 ⟨h.len,h.room,fun i p t=>(h.at_ i p t).keeps o j l,h.apart⟩
def Bw.nil(w:World)(n:Nat):Bw w n [] (List.replicate 0 0):=⟨rfl,(fun p j=>by cases j),(fun i p j=>by cases j),List.nodup_nil⟩
def Jj(w:World)(B:Nat)(v:Value)(P:List AH):Prop:=w.ownsRow B 211 1 v P.length (P.map AH.v)
structure LP(w:World)(n k:Nat)(o:Value)(wr:World):Prop where
 row:∃A c P,o=.slice A k c/\P.length=k/\Jj wr w.heap.size (.slice A k c) P/\Bw wr n P (List.replicate k 0)/\(∀p∈P,w.heap.size<=p.h/\w.heap.size<=p.wb)
 below:Below w w wr
def XJ{w:World}{k n:Nat}(hk:k<=1000)(h1:1<=n)(h2:n<=4096):() 187 #[k,n] w fun e w'=>∃o,e=.returned o/\LP w n k o w':=by
 have HN:=Hd (fun y=>LO (w:=y) h1 h2);go_enter Tryz.func187,Tryz.ntmps187
 go_wp2_with fail
 go_loopw [5,7] (fun o i wr=>∃j:Nat,j<=k/\i=.int .i64 j/\Hid (LP w n j o wr)) (fun _ i _=>k-(intOf i).toNat)
 case atStart=>refine⟨0,AX _,rfl,Hd ⟨⟨none,0,[],rfl,rfl,⟨rfl,.inl ⟨rfl,rfl⟩⟩,Bw.nil _ _,fun a4 p=>by cases p⟩,Below.refl _ _⟩⟩
 case round=>
  obtain⟨j,hj,rfl,l⟩:=hrel;by_cases ab:j<k
  ·obtain⟨A,c,P,rfl,R,C,a0,a1⟩:=l.row
   have J:=Hd l.below;have a2:wr.ownsRow w 211 1 (.slice A j c) j (P.map AH.v):=by unfold Jj at C;rw[R]at C;exact C
   have a7:=Hd a2;have a5:=Hd a0;have a6:=Hd a1;have HP:=Hd R;have a8:=Hd (L9 211 (wr.heap.size+1,0) rfl);clear C a2 a0 a1 R l;go_wp2_with (first
    | (
     go_at_call 157;refine(HN _).mono ?_;rintro e T ⟨rfl,hs,hb⟩
     have HS:=Hd hs;have t:=Hd hb;unfold AH.v;clear hs hb)
    | (
     at_builtin;refine Dc TS (.tmp 9) (.tmp 12) rfl rfl (base:=w.heap.size) (n:=j) (m:=1) (N:=j+1) (xs:=P.map AH.v) (news:=[.pointer (some ⟨wr.heap.size+1,0,none⟩)]) rfl rfl ((AS a7 t).alloc _) (a8 _) rfl (by unfold maxLen;omega) (by omega) (by have:=J.size;have:=t.size;simp;omega) ?_
     intro U c2 w2 r1 I r3;have l:Hid (LP w n (j+1) (.slice U (j+1) c2) w2):=Hd (by
      have a3:=J.size;have ae:=t.size;have ad:AP w2 ⟨wr.heap.size+1,wr.heap.size,n⟩ 0:=(HS.later (AG T _)).keeps I (by decide) (by decide);have a9:=(a5.push (t:=⟨wr.heap.size+1,wr.heap.size,n⟩) (T:=0) t HS rfl (AF _))
      have aa:=(a9.later (AG T (.cells #[(wr.heap.size+1,0)] 211))).keeps I (by decide) (by decide);refine⟨⟨U,c2,P++[⟨wr.heap.size+1,wr.heap.size,n⟩],rfl,by simp[HP.out],?_,?_,?_⟩,?_⟩
      ·unfold Jj
       rw[show (P++[(⟨wr.heap.size+1,wr.heap.size,n⟩:AH)]).length=j+1 by simp[HP.out],By];exact r1
      ·rw[List.replicate_succ']
       exact aa
      ·intro a4 p
       rw[mA,mS]at p;rcases p with p|rfl
       ·exact a6 a4 p
       ·exact⟨by show w.heap.size<=wr.heap.size+1;omega,a3⟩
      ·exact(J.trans (t.mono a3)).trans (((AG T _).mono (by omega)).trans (I.below (by simp;omega))))
     clear r1 I r3))
   go_roundw
   case rel=>exact⟨j+1,by omega,by go_num,l⟩
   case measure=>simp[intOf];omega
  ·obtain rfl:j=k:=by omega
   go_wp2_with fail
   go_ret;exact⟨_,rfl,l⟩
structure Fs where
 q:Nat
 e:AH
 P:List AH
 bv:Value
 hv:Value
structure DE(w:World)(F:Fs)(g:Gz)(E:Nat):Prop where
 Ap:Ah w F.q 292 #[g.nt,g.top,F.e.v,F.bv,F.hv]
 e:AP w F.e E
 en:F.e.n=g.top+1
 Ia:F.P.length=2*(g.top+1)
 bv:Jj w 0 F.bv (F.P.take (g.top+1))
 hv:Jj w 0 F.hv (F.P.drop (g.top+1))
 top:g.top<=1000
variable{w:World}{F:Fs}{g:Gz}{E:Nat}
def DE.AE(h:DE w F g E)(i:Aj p.X w w')(j:AP w p S)(o:F.e.wb≠p.wb):DE w' F g E:=
 ⟨i.Ap h.Ap (Ah.Bf h.Ap j.words (by decide)),h.e.AE i (h.e.head_ne j) o,h.en,h.Ia,
  i.own h.bv (fun k l e=>Ej h.bv j.words (by decide) (by rw[l,show k=p.wb from e])),
  i.own h.hv (fun k l e=>Ej h.hv j.words (by decide) (by rw[l,show k=p.wb from e])),h.top⟩
def DE.later(h:DE w F g E)(i:Below w w w'):DE w' F g E:=
 ⟨h.Ap.below i h.Ap.lt,h.e.later i,h.en,h.Ia,AS h.bv i,AS h.hv i,h.top⟩
def IQ{i:Type}{l:List i}{k:Nat}{a:i}(h:l[k]?=some a):l.drop k=a::l.drop (k+1):=by obtain⟨j,e⟩:=sG.1 h;rw[List.drop_eq_getElem_cons j,e]
def Jj.at_{P:List AH}(h:Jj w B v P)(j:P[i]?=some p):∃g c,v=.slice (some ⟨g,0,none⟩) P.length c/\P.length<=c/\w.cell? ⟨g,i,none⟩=some p.v:=by
 have I:=(sG.1 j).1;rcases Bi h with⟨_,h0⟩|⟨g,c,rfl,o,t,l,C,-⟩
 ·omega
 ·refine⟨g,c,rfl,l,?_⟩
  have:=Bh h i (by omega);rw[this,pG,j];rfl
def DE.open_(h:DE w F g E):∃bg i l j,F.bv=.slice (some ⟨bg,0,none⟩) (g.top+1) i/\F.hv=.slice (some ⟨l,0,none⟩) (g.top+1) j/\g.top+1<=i/\g.top+1<=j:=by
 have J:=h.Ia;obtain⟨p,P⟩:∃p,(F.P.take (g.top+1))[0]?=some p:=⟨_,eG (by rw[List.length_take];omega)⟩
 obtain⟨q,R⟩:∃p,(F.P.drop (g.top+1))[0]?=some p:=⟨_,eG (by rw[List.length_drop];omega)⟩
 obtain⟨bg,i,o,t,-⟩:=h.bv.at_ P;obtain⟨l,j,C,I,-⟩:=h.hv.at_ R;rw[List.length_take,J,Nat.min_eq_left (by omega)]at o t;rw[List.length_drop,J,show 2*(g.top+1)-(g.top+1)=g.top+1 by omega]at C I;exact⟨bg,i,l,j,o,C,t,I⟩
def DE.cells(h:DE w F g E):w.cell? (F.q,0)=some (.int .i64 g.nt)/\w.cell? (F.q,1)=some (.int .i64 g.top)/\w.cell? (F.q,2)=some (.pointer (F.e.h,0))/\w.cell? (F.q,3)=some F.bv/\w.cell? (F.q,4)=some F.hv:=
 ⟨h.Ap.cell 0,h.Ap.cell 1,h.Ap.cell 2,h.Ap.cell 3,h.Ap.cell 4⟩
def DE.Mz{bg n j x:Nat}{q:AH}(h:DE w F g E)(p:F.bv=.slice (bg,0) n j)(o:F.P[x]?=some q)(C:x<=g.top):w.cell? (bg,x)=some (.pointer (q.h,0)):=by
 obtain⟨t,c2,i,-,l⟩:=h.bv.at_ (i:=x) (p:=q) (by rw[List.getElem?_take,if_pos (by omega)];exact o);rw[p]at i;cases i
 exact l
def DE.M1{j n o x:Nat}{q:AH}(h:DE w F g E)(t:F.hv=.slice (j,0) n o)(p:F.P[g.top+1+x]?=some q)(I:x<=g.top):w.cell? (j,x)=some (.pointer (q.h,0)):=by
 obtain⟨C,c2,i,-,l⟩:=h.hv.at_ (i:=x) (p:=q) (by rw[List.getElem?_drop];exact p);rw[t]at i;cases i
 exact l
def Wh{x:Nat}(h:E.testBit x=true):DC E i (x::l) C m=DC E i l (C.set i (C.getD i 0|||C.getD x 0)) ((C.getD i 0|||C.getD x 0) != C.getD i 0||m):=by rw[DC,if_pos h]
def Wr{x:Nat}(h:E.testBit x=false):DC E i (x::l) C m=(C.set i (C.getD i 0|||C.getD x 0),(C.getD i 0|||C.getD x 0) != C.getD i 0||m,false):=by rw[DC,if_neg (by simp[h])]
def OR(w:World)(n:Nat)(Q:List AH)(p:AH)(r:List Nat×Bool×Bool)(e:Ending)(w':World):Prop:=e=.returned (.tuple #[.bool r.2.1,.bool r.2.2])/\Bw w' n Q r.1/\Aj p.X w w'
def OW{Q:List AH}(h:DE w F g E)(hf:Bw w (g.nt+1) Q C)(ar:F.P <+: Q)(hp:Q[i]?=some p)(aq:F.e.wb≠p.wb){lv:Value}(hl:BD w lv l)(hx:∀x∈l,x<=g.top) :
  () 188 #[(F.q,0),p.v,lv] w (OR w (g.nt+1) Q p (DC E i l C false)):=by
 have ad:=hf.at_ i p hp;have I:Hid (∀y,Aj p.X w y->DE y F g E):=Hd (fun y t=>h.AE t ad aq);obtain⟨⟨A,c,rfl,hc⟩,hs,az⟩:=hl;have au:=ad.words;have HC:Hid (∀y,Aj p.X w y->∀(k x:Nat),l[k]?=some x->∃b off,A=some ⟨b,off,none⟩/\y.cell? ⟨b,off+k,none⟩=some (.int .i64 x)):=Hd (fun y t k x hk=>by
  obtain⟨b,off,hA,ab,aa⟩:=hc k x hk;refine⟨b,off,hA,?_⟩;have ay:b≠p.wb:=by rintro rfl;have:=aa;have h2:=au.cell (off+k);rw[h2]at this;unfold CW at this;rw[List.getElem?_toArray,pG]at this;obtain⟨z,_,hz⟩:=Option.map_eq_some_iff.1 this;cases hz
  rw[World.cell?_of_block (w:=w) (t.block b ab ay)];exact aa)
 have HX:=Hd hx;have av:=Hd hf;have HP:=Hd hp;have aw:=Hd ar;have b5:=h.top;obtain⟨bg,bc,hg,b4,a5,-,b3,-⟩:=h.open_;have b0:=h.Ia;clear hc hx ad au hf hp ar aq h az;unfold OR;generalize hR:DC E i l C false=al;have HR:=Hd hR;clear hR;obtain⟨C',m',ax⟩:=al;simp only;unfold AH.v;go_enter Tryz.func188,Tryz.ntmps188
 go_wp2_with fail
 go_loopw [8,13] (fun mo ii wr=>∃(j:Nat) (o:List Nat) (m:Bool),j<=l.length/\ii=.int .i64 j/\mo=.bool m/\Hid (Bw wr (g.nt+1) Q o)/\Hid (Aj p.X w wr)/\Hid (DC E i (l.drop j) o m=(C',m',ax))) (fun _ ii _=>l.length-(intOf ii).toNat)
 case atStart=>exact⟨0,C,false,AX _,rfl,rfl,av,Hd (Aj.refl _ _),HR⟩
 case round=>
  obtain⟨j,o,m,hj,rfl,rfl,a7,U,a0⟩:=hrel;by_cases ab:j<l.length
  ·have a3:=eG ab
   generalize l[j]=x at a3;have af:=HX x (mG a3);have ao:=IQ a3;rw[ao]at a0;obtain⟨b,off,rfl,aa⟩:=HC wr U j x a3;obtain⟨q,ae⟩:∃q,F.P[x]?=some q:=⟨_,eG (by omega)⟩
   have ai:=Hd ae;have HQ:Hid (Q[x]?=some q):=Hd (by obtain⟨al,hR⟩:=aw.out;rw[<-hR,gL (by omega)];exact ae)
   obtain⟨q0,q1,-,-,-⟩:=(I wr U).cells;have ak:Hid (∀y,() 202 #[.agg #[g.nt,g.top],.int .i64 x] y (BB y true)):=Hd (fun y=>by have:=jJ y g.nt g.top x;rwa [decide_eq_true af]at this);have ah:Hid (∀y,Bw y (g.nt+1) Q o->() 162 #[(p.h,0),(q.h,0)] y fun e w'=>e=.returned (.bool (o.getD i 0|||o.getD x 0 != o.getD i 0))/\Bw w' (g.nt+1) Q (o.set i (o.getD i 0|||o.getD x 0))/\Aj p.X y w'):=Hd (fun y t=>by
    refine(He (t.at_ i p HP) (t.at_ x q HQ) ?_).mono ?_
    ·rw[t.room p (mG HP),t.room q (mG HQ)]
    ·rintro e w' ⟨he,h1,h2⟩
     exact⟨he,t.EY HP h1 h2,h2⟩)
   have ag:Hid (∀y,Aj p.X w y->() 203 #[(F.e.h,0),.int .i64 x] y fun e w'=>e=.returned (.bool (E.testBit x))/\w'=y):=Hd (fun y t=>YL (I y t).e (by rw[(I y t).en];omega));have a9:=Hd (fun h=>Wh (E:=E) (i:=i) (x:=x) (l:=l.drop (j+1)) (C:=o) (m:=m) h);have a8:=Hd (fun h=>Wr (E:=E) (i:=i) (x:=x) (l:=l.drop (j+1)) (C:=o) (m:=m) h);clear a3 ao ae;generalize (o.getD i 0|||o.getD x 0 != o.getD i 0)=b1 at *;generalize o.set i (o.getD i 0|||o.getD x 0)=Cn at *;generalize an:E.testBit x=b2 at *;cases b2
   ·have T:=a8 rfl
    rw[a0.out]at T;cases T
    clear an a8 a9;cases b1
    all_goals go_wp2_with (first
     | (
      go_at_call 202;refine(ak _).mono ?_;rintro e w1 ⟨rfl,R⟩
      have P:=Hd (U.next (Aj.AJ R));have a6:=Hd (a7.later R);have d1:=(I w1 P).Mz a5 ai af;obtain⟨-,-,-,d2,-⟩:=(I w1 P).cells;rw[a5]at d2;clear R)
     | (
      go_at_call 162;refine(ah _ a6).mono ?_;rintro e w2 ⟨rfl,a2,a1⟩
      have J:=Hd (P.next a1);have a4:=Hd a2;obtain⟨-,-,d3,-,-⟩:=(I w2 J).cells;clear a2 a1)
     | (go_at_call 203;refine(ag _ J).mono ?_;rintro e w3 ⟨rfl,rfl⟩))
    all_goals go_ret2
    all_goals exact⟨rfl,a4,J⟩
   ·have T:=a9 rfl
    rw[a0.out]at T;have aj:=Hd T.symm;clear an a8 a9 T a0;cases b1
    all_goals go_wp2_with (first
     | (
      go_at_call 202;refine(ak _).mono ?_;rintro e w1 ⟨rfl,R⟩
      have P:=Hd (U.next (Aj.AJ R));have a6:=Hd (a7.later R);have d1:=(I w1 P).Mz a5 ai af;obtain⟨-,-,-,d2,-⟩:=(I w1 P).cells;rw[a5]at d2;clear R)
     | (
      go_at_call 162;refine(ah _ a6).mono ?_;rintro e w2 ⟨rfl,a2,a1⟩
      have J:=Hd (P.next a1);have a4:=Hd a2;obtain⟨-,-,d3,-,-⟩:=(I w2 J).cells;clear a2 a1)
     | (go_at_call 203;refine(ag _ J).mono ?_;rintro e w3 ⟨rfl,rfl⟩))
    all_goals go_roundw
    all_goals first
     | exact⟨j+1,Cn,m,by omega,by go_num,rfl,a4,J,aj⟩
     | exact⟨j+1,Cn,true,by omega,by go_num,rfl,a4,J,aj⟩
     | (simp[intOf];omega)
  ·obtain rfl:j=l.length:=by omega
   have e:=a0.out;rw[List.drop_length,DC]at e;cases e
   go_wp2_with fail
   go_ret2
   exact⟨rfl,a7,U⟩
end Go.Proofs.YtlogpnoioimhjaaGreatDoor
