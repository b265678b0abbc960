/- Grammars that may be. A grammar's rule. What symbols begin with. What symbols begin with. What symbols begin with. -/
import Derived.Test.YthaacmablcpdfaaGreatDoorYae
import Derived.Test.YthaacmablcpdfaaGreatDoorYn
set_option linter.unusedVariables false
set_option maxRecDepth 100000
set_option maxHeartbeats 16000000
namespace Go.Proofs.YthaacmablcpdfaaGreatDoor
open Go.RowKit
structure Gz where
 nt:Nat
 nn:Nat
 s:Nat
 R:List (Nat×List Nat)
abbrev It:=Nat×Nat
namespace Gz
def top(g:Gz):Nat:=g.nt+g.nn
def AV(g:Gz)(x:Nat):Bool:=decide (g.nt<x)&&decide (x<=g.top)
def Cf(g:Gz)(k:Nat):Nat×List Nat:=if k=g.R.length then(0,[g.s]) else g.R.getD k (0,[])
def right(g:Gz)(k:Nat):List Nat:=(g.Cf k).2
def Cb(g:Gz)(s:Nat):List Nat:=(List.range g.R.length).filter fun k=>(g.R.getD k (0,[])).1==s
end Gz
def Gz.EP(i:Gm):Gz:=⟨i.T.length,i.N.length,i.s.toNat,i.R.map fun r=>(r.left.toNat,r.right.map Int.toNat)⟩
structure GN(w:World)(v:Value)(g:Gz):Prop where
 EF:∃gm,Ci w v gm/\gm.check=0/\g=Gz.EP gm
structure Gz.Fit(g:Gz):Prop where
 nt:g.nt<=120
 nn:g.nn<=120
 nr:g.R.length<=300
 short:∀r∈g.R,r.2.length<=8
 start:g.nt<g.s/\g.s<=g.top
 left:∀r∈g.R,g.nt<r.1/\r.1<=g.top
 right:∀r∈g.R,∀x∈r.2,1<=x/\x<=g.top
theorem Ei{w:World}{base base':Nat}{e:TypeId}{size n:Nat}{v:Value}{xs:List Value}(h:w.ownsRow base e size v n xs)(l:base'<=base):w.ownsRow base' e size v n xs:=by
 refine⟨h.1,?_⟩;rcases h.2 with o|⟨g,cap,i,rfl,j,rest⟩
 ·exact .inl o
 ·exact .inr ⟨g,cap,i,rfl,AX l j,rest⟩
theorem GN.later{w w':World}{v:Value}{g:Gz}(h:GN w v g)(p:Below w.heap.size w w'):GN w' v g:=by obtain⟨i,j,l,o⟩:=h.EF;exact⟨i,j.later p,l,o⟩
theorem GN.fit{w:World}{v:Value}{g:Gz}(h:GN w v g):g.Fit:=by
 obtain⟨t,h1,R,rfl⟩:=h.EF;obtain⟨l,-,-,o,-,-⟩:=Od R;unfold Gm.DH at l;simp only[Bool.and_eq_true,decide_eq_true_eq]at l;obtain⟨⟨C,I⟩,J,P⟩:=l;have hs:=PU o;have p:∀r∈(Gz.EP t).R,∃q∈t.R,r=(q.left.toNat,q.right.map Int.toNat):=fun r i=>by unfold Gz.EP at i;obtain⟨q,j,rfl⟩:=List.mem_map.1 i;exact⟨q,j,rfl⟩
 refine⟨C,I,by unfold Gz.EP;simpa using J,?_,?_,?_,?_⟩
 ·intro r i
  obtain⟨q,j,rfl⟩:=p r i;have:=List.all_eq_true.1 P q j;unfold Gf at this;simpa using this
 ·unfold Gz.top Gz.EP;simp only;omega
 ·intro r i
  obtain⟨q,j,rfl⟩:=p r i;have:=(Lg o j).1;unfold Gz.top Gz.EP;simp only;omega
 ·intro r i x T
  obtain⟨q,j,rfl⟩:=p r i;obtain⟨y,U,rfl⟩:=List.mem_map.1 T;have:=(Lg o j).2 y U;unfold Gz.top Gz.EP;simp only;omega
abbrev Bz(w:World)(v:Value)(l:List Nat):Prop:=Bj AU w v l
theorem Xj{w:World}{v:Value}{l:List Int}(h:Bj BF w v l)(h0:∀x∈l,0<=x):Bz w v (l.map Int.toNat):=by obtain⟨⟨A,c,P,p⟩,J,I⟩:=h;refine⟨⟨A,c,by rw[P,lM],fun k x i=>?_⟩,by rw[lM];exact J,I⟩;rw[pG]at i;obtain⟨y,j,rfl⟩:=Option.map_eq_some_iff.1 i;obtain⟨b,off,o,C,t⟩:=p k y j;have:=h0 y (mG j);refine⟨b,off,o,C,?_⟩;rw[t];unfold BF AU;rw[show ((y.toNat:Nat):Int)=y by omega]
theorem G3{w:World}{B:Nat}{v:Value}{l:List Nat}(h:w.ownsRow B 3 1 v l.length (l.map AU))(j:l.length<=4611686018427387904):Bz w v l:=by
 rcases Bv h with⟨rfl,h0⟩|⟨b,c,rfl,C,o,p,I,_⟩
 ·exact⟨⟨none,0,by rw[h0],fun k x i=>by have:=(sG.1 i).1;omega⟩,j,fun A n c e=>by cases e;exact⟨AG _,fun _=>rfl⟩⟩
 ·refine⟨⟨_,c,rfl,fun k x i=>⟨b,0,rfl,o,?_⟩⟩,j,fun A n t e=>by cases e;exact⟨p,fun e=>by cases e⟩⟩
  have J:=(sG.1 i).1;rw[Nat.zero_add,Bf h k (by omega),pG,i];rfl
theorem GN.open_{w:World}{v:Value}{g:Gz}(h:GN w v g):∃o t l p i j,v=.agg #[.slice o g.nt t,.slice l g.nn p,.slice i g.R.length j,.int .i64 g.s] /\
  (∀k r,g.R[k]?=some r->∃b off rv,i=some ⟨b,off,none⟩/\b<w.heap.size/\w.cell? ⟨b,off+k*2,none⟩=some (.int .i64 r.1)/\w.cell? ⟨b,off+k*2+1,none⟩=some rv/\Bz w rv r.2)/\g.R.length<=j:=by
 obtain⟨I,h1,h2,rfl⟩:=h.EF;obtain⟨hf,-,-,P,-,-⟩:=Od h2;obtain⟨o,t,l,p,i,j,hv,hT,hN,J⟩:=h1.open_;have a2:=PU P;refine⟨o,t,l,p,i,j,?_,?_,?_⟩
 ·rw[hv]
  unfold Gz.EP;simp only[lM];rw[show ((I.s.toNat:Nat):Int)=I.s by omega]
 ·intro k r C
  unfold Gz.EP at C;simp only[pG]at C;obtain⟨q,R,rfl⟩:=Option.map_eq_some_iff.1 C;obtain⟨⟨A,c,he,hc⟩,-,-⟩:=J;cases he
  obtain⟨b,off,hA,a0,T,U,e3⟩:=hc k q R;obtain⟨k1,k2⟩:=Lg P (mG R);refine⟨b,off,q.v,hA,a0,?_,U,Xj e3 (fun x hx=>by have:=k2 x hx;omega)⟩;rw[T];simp only;rw[show ((q.left.toNat:Nat):Int)=q.left by omega]
 ·obtain⟨-,-,a1⟩:=J
  have:=(a1 _ _ _ rfl).1;unfold Gz.EP;simp only[lM];exact this
section
variable {w:World} {v:Value} {g:Gz}
theorem I3(h:GN w v g):Calls Tryz.prog 38 #[v] w fun e w'=>e=.returned (.int .i64 g.top)/\Below w.heap.size w w':=by obtain⟨l,i,o,rfl⟩:=h.EF;refine(Mc i).mono ?_;rintro e w' ⟨rfl,j⟩;exact⟨rfl,j⟩
theorem KJ(h:GN w v g)(x:Nat):Calls Tryz.prog 40 #[v,.int .i64 x] w (Bb w (g.AV x)):=by
 obtain⟨i,j,l,rfl⟩:=h.EF;have e:i.AV (x:Int)=(Gz.EP i).AV x:=by unfold Gm.AV Gz.AV Gz.top Gz.EP;rw[Bool.eq_iff_iff];simp only[Bool.and_eq_true,decide_eq_true_eq];omega
 rw[<-e];exact K0 j x
theorem L0(h:GN w v g):Calls Tryz.prog 35 #[v] w fun e w'=>e=.returned (.int .i64 0)/\Below w.heap.size w w':=by obtain⟨o,j,l,rfl⟩:=h.EF;refine(Yh j).mono ?_;intro e w' i;rw[l]at i;exact i
theorem Qb(h:GN w v g)(s:Nat):Calls Tryz.prog 83 #[v,.int .i64 s] w fun e w'=>∃o,e=.returned o/\CE 3 w ((g.Cb s).map AU) o w':=by
 obtain⟨j,I,J,rfl⟩:=h.EF;refine(Pc I s).mono ?_;rintro e w' ⟨o,rfl,A,c,rfl,t,P⟩;obtain⟨U,-,-,T,-,-⟩:=Od J;have p:(Dv j.R (s:Int) j.R.length).map BF=((Gz.EP j).Cb s).map AU:=by
  unfold Dv Gz.Cb Gz.EP;simp only[List.map_map,lM];have C:(List.range j.R.length).filter (fun i=>(j.R[i]?.map (Gm.left (s:Int))).getD false)=(List.range j.R.length).filter (fun k=>((j.R.map fun r=>(r.left.toNat,r.right.map Int.toNat)).getD k (0,[])).1==s):=by apply List.filter_congr;intro k l;rw[List.mem_range]at l;rw[dG,pG,eG l];have:=(Lg T (List.getElem_mem l)).1;simp only[Option.map_some,Option.getD_some,Gm.left];rw[Bool.eq_iff_iff,beq_iff_eq,beq_iff_eq];omega
  rw[C];rfl
 rw[p]at t;have R:=Dm P;refine⟨_,rfl,A,c,by rw[<-p],?_,R⟩;exact Ei t (by simp)
end
theorem Me{fn:Func}{p u:Tmp}{ty:TypeId}{P:Program}{w:World}{tmps:Array Value}{a:Addr}{v:Value}(h:fn.results=#[.cell p ty,.tmp u])(i:tmps.getD p undef=.pointer (some a))(j:(loadVar ty a).run P w=.ok v w) :
  (results fn tmps).run P w=.ok (.tuple #[v,tmps.getD u undef]) w:=by
 rw[Array.getD_eq_getD_getElem?]at i;simp only[results,h];simp[Result.andThen,i,asAddr,j]
theorem Ms{y:World}{b:Nat}{u rv:Value}(h:y.cell? ⟨b,0,none⟩=some u)(i:y.cell? ⟨b,1,none⟩=some rv):(loadVar 65 ⟨b,0,none⟩).run Tryz.prog y=.ok (.agg #[u,rv]) y:=by simp[go_sem,h,i]
def MV(w:World)(g:Gz)(k:Nat)(e:Ending)(w':World):Prop:=∃i,e=.returned (.tuple #[.agg #[.int .i64 ((g.Cf k).1:Nat),i],.bool true])/\Bz w' i (g.right k)/\Below w.heap.size w w'
theorem eY{w:World}{v:Value}{g:Gz}(h:GN w v g){k:Nat}(hk:k<=g.R.length):Calls Tryz.prog 26 #[v,.int .i64 k] w (MV w g k):=by
 have hf:=h.fit.nr;obtain⟨J,U,C,R,I,T,rfl,l,a0⟩:=h.open_;have HG:=Hd (Ah.new w 32 #[.slice J g.nt U,.slice C g.nn R,.slice I g.R.length T,.int .i64 g.s]);by_cases p:k=g.R.length
 ·have i:g.Cf k=(0,[g.s]):=by unfold Gz.Cf;rw[if_pos p]
  unfold MV Gz.right;rw[i];clear h l;generalize g.R.length=nR at *;subst p;generalize g.nt=nt at *;generalize g.nn=nn at *;generalize g.s=j at *;go_enter Tryz.func26,Tryz.ntmps26
  go_wp2_with fail
  refine bodyPost_ret (Me rfl rfl (Ms (b:=w.heap.size+1) (u:=.int .i64 0) (rv:=.slice (some ⟨w.heap.size+1+1,0,none⟩) 1 1) ?_ ?_)) rfl ?_
  ·exact(Ah.alloc (Ah.newAt (by simp)) _).cell 0
  ·exact(Ah.alloc (Ah.newAt (by simp)) _).cell 1
  ·refine⟨_,rfl,?_,((Ay w _).alloc (by simp) _).alloc (by simp;omega) _⟩
   refine G3 (B:=0) (l:=[j]) ?_ (by simp);refine⟨rfl,.inr ⟨w.heap.size+1+1,1,#[.int .i64 j],rfl,AP _,?_,by simp,by decide,rfl,rfl⟩⟩;exact Ah.newAt (by simp)
 ·obtain⟨r,t⟩:∃r,g.R[k]?=some r:=⟨_,eG (by omega)⟩
  obtain⟨b,off,rv,rfl,hb,c0,c1,o⟩:=l k r t;have i:g.Cf k=r:=by unfold Gz.Cf;rw[if_neg p,dG,t];rfl
  unfold MV Gz.right;rw[i];have P:=Hd o;obtain⟨⟨ra,rc,rfl,-⟩,-,-⟩:=id o;have a1:k<g.R.length:=by omega
  clear h l o t i;obtain⟨rl,rr⟩:=r;simp only at *;generalize rr.length=rn at *;generalize g.R.length=nR at *;generalize g.nt=nt at *;generalize g.nn=nn at *;generalize g.s=j at *;go_enter Tryz.func26,Tryz.ntmps26
  go_wp2_with fail
  refine bodyPost_ret (Me rfl rfl (Ms (b:=w.heap.size+1) (u:=.int .i64 rl) (rv:=.slice ra rn rc) ?_ ?_)) rfl ?_
  ·exact(Ah.newAt (by simp)).cell 0
  ·exact(Ah.newAt (by simp)).cell 1
  ·exact⟨_,rfl,P.out.later (((Ay w _).alloc (by simp) _)),((Ay w _).alloc (by simp) _)⟩
def DF(E i:Nat):List Nat->List Nat->Bool->List Nat×Bool×Bool
 | [],C,m=>(C,m,true)
 | x::l,C,m=>
  if E.testBit x then DF E i l (C.set i (C.getD i 0|||C.getD x 0)) ((C.getD i 0|||C.getD x 0) != C.getD i 0||m)
  else(C.set i (C.getD i 0|||C.getD x 0),(C.getD i 0|||C.getD x 0) != C.getD i 0||m,false)
def DC:List (Nat×List Nat)->Nat->List Nat->Bool->Nat×List Nat×Bool
 | [],E,C,more=>(E,C,more)
 | r::l,E,C,more=>
  match DF E r.1 r.2 C false with
  | (i,m,all)=>DC l (if all then E|||2 ^ r.1 else E) i (more||((all&&!E.testBit r.1)||m))
def F6(g:Gz):Nat->Nat->List Nat->Option (Nat×List Nat)
 | 0,_,_=>none
 | f+1,E,C=>match DC g.R E C false with
  | (j,i,true)=>F6 g f j i
  | (j,i,false)=>some (j,i)
def EL(g:Gz)(E o left:Nat):List Nat->List Nat->Bool->List Nat×Bool
 | [],C,more=>(C,more)
 | x::l,C,more=>
  if g.AV x then
   match DF E (o+x) l C false with
   | (i,m,true)=>EL g E o left l (i.set (o+x) (i.getD (o+x) 0|||i.getD (o+left) 0)) (more||((i.getD (o+x) 0|||i.getD (o+left) 0) != i.getD (o+x) 0||m))
   | (i,m,false)=>EL g E o left l i (more||m)
  else EL g E o left l C more
def FK(g:Gz)(E o:Nat):List (Nat×List Nat)->List Nat->Bool->List Nat×Bool
 | [],C,more=>(C,more)
 | r::l,C,more=>match EL g E o r.1 r.2 C false with|(i,m)=>FK g E o l i (more||m)
def Fk(g:Gz)(E o:Nat):Nat->List Nat->Option (List Nat)
 | 0,_=>none
 | f+1,C=>match FK g E o g.R C false with
  | (i,true)=>Fk g E o f i
  | (i,false)=>some i
def Jl(g:Gz):List Nat:=(List.range (g.top+1)).map (fun x=>if x<=g.nt then 2 ^ x else 0)++List.replicate (g.top+1) 0
def J9(g:Gz)(f:Nat):Option (Nat×List Nat):=
 match F6 g f 0 (Jl g) with
 | none=>none
 | some (E,C)=>match Fk g E (g.top+1) f (C.set (g.top+1+g.s) (C.getD (g.top+1+g.s) 0|||1)) with
  | none=>none
  | some i=>some (E,i)
def Dq(E:Nat)(C:List Nat):List Nat->Nat->Nat×Bool
 | [],S=>(S,true)
 | x::l,S=>if E.testBit x then Dq E C l (S|||C.getD x 0) else(S|||C.getD x 0,false)
theorem SY{E:Nat}{C:List Nat}:∀(l:List Nat) (S:Nat) (m:Bool),(∀x∈l,x<C.length)->∃I,DF E C.length l (C++[S]) m=(C++[(Dq E C l S).1],I,(Dq E C l S).2)
 | [],S,m,_=>⟨m,rfl⟩
 | x::l,S,m,h=>by
  have p:=h x (by simp);have i:(C++[S]).getD C.length 0=S:=by simp
  have j:(C++[S]).getD x 0=C.getD x 0:=by rw[dG,gL p,dG]
  have o:∀T,(C++[S]).set C.length T=C++[T]:=fun T=>by simp
  unfold DF Dq;rw[i,j,o];split
  ·exact SY l _ _ (fun y t=>h y (by simp[t]))
  ·exact⟨_,rfl⟩
theorem G2{w:World}{s t:AA}{S T:Nat}(h:AK w s S)(j:AK w t T)(i:t.n=s.n):Calls Tryz.prog 157 #[s.v,t.v] w fun e w'=>e=.returned (.bool (S|||T != S))/\AK w' s (S|||T)/\Aj s.X w w':=by have e:C4 S T (nW s.n)=S|||T:=Yj h.fit (by rw[<-i];exact j.fit);rw[<-e];exact eQ h j i
structure Bu(w:World)(n:Nat)(P:List AA)(C:List Nat):Prop where
 len:P.length=C.length
 room:∀p∈P,p.n=n
 at_:∀i p,P[i]?=some p->AK w p (C.getD i 0)
 apart:(P.map AA.wb).Nodup
theorem Pf{l:List Nat}(h:l.Nodup){i j a:Nat}(I:l[i]?=some a)(J:l[j]?=some a):i=j:=by obtain⟨t,o⟩:=sG.1 I;obtain⟨C,p⟩:=sG.1 J;exact(List.getElem_inj (h₀:=t) (h₁:=C) h).1 (o.trans p.symm)
theorem AK.head_ne{w:World}{s t:AA}{S T:Nat}(h:AK w s S)(i:AK w t T):s.h≠t.wb:=Ah.A8 h.head i.words (by decide)
theorem Bu.EG{w w':World}{n:Nat}{P:List AA}{C:List Nat}(h:Bu w n P C){i:Nat}{p:AA}{T:Nat}(l:P[i]?=some p)(U:AK w' p T)(J:Aj p.X w w'):Bu w' n P (C.set i T):=by
 have R:=(sG.1 l).1;refine⟨by rw[List.length_set];exact h.len,h.room,fun j q o=>?_,h.apart⟩;by_cases t:i=j
 ·subst t
  rw[l]at o;cases o
  rw[dG,tG (by rw[<-h.len];exact R)];exact U
 ·rw[dG,uG t,<-dG]
  have I:=h.at_ j q o;refine I.Aw J (I.head_ne (h.at_ i p l)) ?_;intro e;refine t (Pf h.apart (a:=p.wb) ?_ ?_)
  ·rw[pG,l];rfl
  ·rw[pG,o];exact congrArg some e
theorem Bu.Aw{w w':World}{n:Nat}{P:List AA}{C:List Nat}{X:Nat->Prop}(h:Bu w n P C)(o:Aj X w w')(l:∀p∈P,¬X p.h/\¬X p.wb):Bu w' n P C:=
 ⟨h.len,h.room,fun i p j=>(h.at_ i p j).Aw o (l p (mG j)).1 (l p (mG j)).2,h.apart⟩
theorem Bu.later{w w':World}{n:Nat}{P:List AA}{C:List Nat}(h:Bu w n P C)(i:Below w.heap.size w w'):Bu w' n P C:=
 h.Aw (X:=fun _=>False) (Aj.AH i) (fun _ _=>⟨id,id⟩)
theorem Bu.lt{w:World}{n:Nat}{P:List AA}{C:List Nat}(h:Bu w n P C){p:AA}(l:p∈P):p.h<w.heap.size/\p.wb<w.heap.size:=by obtain⟨i,j,rfl⟩:=List.mem_iff_getElem.1 l;have:=h.at_ i _ (eG j);exact⟨this.head.lt,this.words.lt⟩
theorem Bu.push{w w':World}{n:Nat}{P:List AA}{C:List Nat}(h:Bu w n P C){t:AA}{T:Nat}(I:Below w.heap.size w w')(U:AK w' t T)(R:t.n=n)(a0:w.heap.size<=t.wb):Bu w' n (P++[t]) (C++[T]):=by
 refine⟨by simp[h.len],?_,?_,?_⟩
 ·intro p j
  rw[mA,mS]at j;rcases j with j|rfl
  ·exact h.room p j
  ·exact R
 ·intro i p j
  by_cases o:i<P.length
  ·rw[gL o]at j
   rw[dG,gL (by rw[<-h.len];exact o),<-dG];exact(h.at_ i p j).later I
  ·have J:i=P.length:=by
    have:=(sG.1 j).1;simp at this;omega
   subst J;simp at j;subst j;rw[h.len];simpa using U
 ·rw[By,List.nodup_append]
  refine⟨h.apart,by simp,?_⟩;intro a ha b l;simp at l;subst l;obtain⟨p,j,rfl⟩:=List.mem_map.1 ha;have:=(h.lt j).2;omega
theorem hC(w:World)(a b x:Nat):Calls Tryz.prog 215 #[.agg #[.int .i64 a,.int .i64 b],.int .i64 x] w (Bb w (decide (x<=b))):=by
 go_enter Tryz.func215,Tryz.ntmps215
 go_wp2;go_ret;exact⟨BB (by simp),Ay _ _⟩
theorem cZ(w:World)(a b x:Nat):Calls Tryz.prog 216 #[.agg #[.int .i64 a,.int .i64 b],.int .i64 x] w (Bb w (decide (a<x)&&decide (x<=b))):=by
 go_enter Tryz.func216,Tryz.ntmps216
 go_wp2;all_goals go_ret
 all_goals exact⟨BB (by simp[*]),Ay _ _⟩
theorem QL:El Tryz.prog 189 90 1 8:=El.of (z:=.pointer none) Tryz.underlying189 (by kernel_rfl) rfl (by decide)
theorem AK.keeps{w w':World}{s:AA}{S B:Nat}{T:List TypeId}(h:AK w s S)(i:AI B T w w')(j:161 ∉ T)(l:156 ∉ T):AK w' s S:=
 ⟨i.An h.head (.inr j),i.An h.words (.inr l),h.small,h.fit⟩
theorem Bu.keeps{w w':World}{n B:Nat}{P:List AA}{C:List Nat}{T:List TypeId}(h:Bu w n P C)(o:AI B T w w')(j:161 ∉ T)(l:156 ∉ T):Bu w' n P C:=
 ⟨h.len,h.room,fun i p t=>(h.at_ i p t).keeps o j l,h.apart⟩
theorem Bu.nil(w:World)(n:Nat):Bu w n [] (List.replicate 0 0):=⟨rfl,(fun p j=>by cases j),(fun i p j=>by cases j),List.nodup_nil⟩
def I0(w:World)(B:Nat)(v:Value)(P:List AA):Prop:=w.ownsRow B 90 1 v P.length (P.map AA.v)
structure Ln(w:World)(n k:Nat)(o:Value)(wr:World):Prop where
 row:∃A c P,o=.slice A k c/\P.length=k/\I0 wr w.heap.size (.slice A k c) P/\Bu wr n P (List.replicate k 0)/\(∀p∈P,w.heap.size<=p.h/\w.heap.size<=p.wb)
 below:Below w.heap.size w wr
theorem Yn{w:World}{k n:Nat}(hk:k<=1000)(h1:1<=n)(h2:n<=4096):Calls Tryz.prog 196 #[.int .i64 k,.int .i64 n] w fun e w'=>∃o,e=.returned o/\Ln w n k o w':=by
 have HN:=Hd (fun y=>JP (w:=y) h1 h2);go_enter Tryz.func196,Tryz.ntmps196
 go_wp2_with fail
 go_loopw [5,7] (fun o i wr=>∃j:Nat,j<=k/\i=.int .i64 j/\Hid (Ln w n j o wr)) (fun _ i _=>k-(intOf i).toNat)
 case atStart=>refine⟨0,AP _,rfl,Hd ⟨⟨none,0,[],rfl,rfl,⟨rfl,.inl ⟨rfl,rfl⟩⟩,Bu.nil _ _,fun a4 p=>by cases p⟩,Below.refl _ _⟩⟩
 case round=>
  obtain⟨j,hj,rfl,l⟩:=hrel;by_cases ab:j<k
  ·obtain⟨A,c,P,rfl,R,C,a0,a1⟩:=l.out.row
   have J:=Hd l.out.below;have a2:wr.ownsRow w.heap.size 90 1 (.slice A j c) j (P.map AA.v):=by unfold I0 at C;rw[R]at C;exact C
   have a7:=Hd a2;have a5:=Hd a0;have a6:=Hd a1;have HP:=Hd R;have a8:=Hd (Mq 90 (.pointer (some ⟨wr.heap.size+1,0,none⟩)) rfl);clear C a2 a0 a1 R l;go_wp2_with (first
    | (
     go_at_call 84;refine(HN.out _).mono ?_;rintro e T ⟨rfl,hs,hb⟩
     have HS:=Hd hs;have t:=Hd hb;unfold AA.v;clear hs hb)
    | (
     at_builtin;refine DA QL (.tmp 9) (.tmp 12) rfl rfl (base:=w.heap.size) (n:=j) (m:=1) (N:=j+1) (xs:=P.map AA.v) (news:=[.pointer (some ⟨wr.heap.size+1,0,none⟩)]) rfl rfl ((AS a7.out t.out).alloc _) (a8.out _) rfl (by unfold maxLen;omega) (by omega) (by have:=J.out.size;have:=t.out.size;simp;omega) ?_
     intro U c2 w2 r1 I r3;have l:Hid (Ln w n (j+1) (.slice U (j+1) c2) w2):=Hd (by
      have a3:=J.out.size;have ae:=t.out.size;have ad:AK w2 ⟨wr.heap.size+1,wr.heap.size,n⟩ 0:=(HS.out.later (Ay T _)).keeps I (by decide) (by decide);have a9:=(a5.out.push (t:=⟨wr.heap.size+1,wr.heap.size,n⟩) (T:=0) t.out HS.out rfl (AG _))
      have aa:=(a9.later (Ay T (.cells #[.pointer (some ⟨wr.heap.size+1,0,none⟩)] 90))).keeps I (by decide) (by decide);refine⟨⟨U,c2,P++[⟨wr.heap.size+1,wr.heap.size,n⟩],rfl,by simp[HP.out],?_,?_,?_⟩,?_⟩
      ·unfold I0
       rw[show (P++[(⟨wr.heap.size+1,wr.heap.size,n⟩:AA)]).length=j+1 by simp[HP.out],By];exact r1
      ·rw[List.replicate_succ']
       exact aa
      ·intro a4 p
       rw[mA,mS]at p;rcases p with p|rfl
       ·exact a6.out a4 p
       ·exact⟨by show w.heap.size<=wr.heap.size+1;omega,a3⟩
      ·exact(J.out.trans (t.out.mono a3)).trans (((Ay T _).mono (by omega)).trans (I.below (by simp;omega))))
     clear r1 I r3))
   go_roundw
   case rel=>exact⟨j+1,by omega,by go_num,l⟩
   case measure=>simp[intOf];omega
  ·obtain rfl:j=k:=by omega
   go_wp2_with fail
   go_ret;exact⟨_,rfl,l.out⟩
structure Fs where
 q:Nat
 e:AA
 P:List AA
 bv:Value
 hv:Value
structure Dz(w:World)(F:Fs)(g:Gz)(E:Nat):Prop where
 An:Ah w F.q 279 #[.int .i64 g.nt,.int .i64 g.top,F.e.v,F.bv,F.hv]
 e:AK w F.e E
 en:F.e.n=g.top+1
 Iq:F.P.length=2*(g.top+1)
 bv:I0 w 0 F.bv (F.P.take (g.top+1))
 hv:I0 w 0 F.hv (F.P.drop (g.top+1))
 top:g.top<=1000
theorem Dz.Aw{w w':World}{F:Fs}{g:Gz}{E S:Nat}{p:AA}(h:Dz w F g E)(i:Aj p.X w w')(j:AK w p S)(o:F.e.wb≠p.wb):Dz w' F g E:=
 ⟨i.An h.An (Ah.A8 h.An j.words (by decide)),h.e.Aw i (h.e.head_ne j) o,h.en,h.Iq,
  i.own h.bv (fun k l e=>DX h.bv j.words (by decide) (by rw[l,show k=p.wb from e])),
  i.own h.hv (fun k l e=>DX h.hv j.words (by decide) (by rw[l,show k=p.wb from e])),h.top⟩
theorem Dz.later{w w':World}{F:Fs}{g:Gz}{E:Nat}(h:Dz w F g E)(i:Below w.heap.size w w'):Dz w' F g E:=
 ⟨h.An.below i h.An.lt,h.e.later i,h.en,h.Iq,AS h.bv i,AS h.hv i,h.top⟩
theorem Er{i:Type}{l:List i}{k:Nat}{a:i}(h:l[k]?=some a):l.drop k=a::l.drop (k+1):=by obtain⟨j,e⟩:=sG.1 h;rw[List.drop_eq_getElem_cons j,e]
theorem I0.at_{w:World}{B:Nat}{v:Value}{P:List AA}(h:I0 w B v P){i:Nat}{p:AA}(j:P[i]?=some p):∃g c,v=.slice (some ⟨g,0,none⟩) P.length c/\P.length<=c/\w.cell? ⟨g,i,none⟩=some p.v:=by
 have I:=(sG.1 j).1;rcases Bv h with⟨_,h0⟩|⟨g,c,rfl,o,t,l,C,-⟩
 ·omega
 ·refine⟨g,c,rfl,l,?_⟩
  have:=Bf h i (by omega);rw[this,pG,j];rfl
theorem Dz.open_{w:World}{F:Fs}{g:Gz}{E:Nat}(h:Dz w F g E):∃bg i l j,F.bv=.slice (some ⟨bg,0,none⟩) (g.top+1) i/\F.hv=.slice (some ⟨l,0,none⟩) (g.top+1) j/\g.top+1<=i/\g.top+1<=j:=by
 have J:=h.Iq;obtain⟨p,P⟩:∃p,(F.P.take (g.top+1))[0]?=some p:=⟨_,eG (by rw[List.length_take];omega)⟩
 obtain⟨q,R⟩:∃p,(F.P.drop (g.top+1))[0]?=some p:=⟨_,eG (by rw[List.length_drop];omega)⟩
 obtain⟨bg,i,o,t,-⟩:=h.bv.at_ P;obtain⟨l,j,C,I,-⟩:=h.hv.at_ R;rw[List.length_take,J,Nat.min_eq_left (by omega)]at o t;rw[List.length_drop,J,show 2*(g.top+1)-(g.top+1)=g.top+1 by omega]at C I;exact⟨bg,i,l,j,o,C,t,I⟩
theorem Dz.cells{w:World}{F:Fs}{g:Gz}{E:Nat}(h:Dz w F g E):w.cell? ⟨F.q,0,none⟩=some (.int .i64 g.nt)/\w.cell? ⟨F.q,1,none⟩=some (.int .i64 g.top)/\w.cell? ⟨F.q,2,none⟩=some (.pointer (some ⟨F.e.h,0,none⟩))/\w.cell? ⟨F.q,3,none⟩=some F.bv/\w.cell? ⟨F.q,4,none⟩=some F.hv:=
 ⟨h.An.cell 0,h.An.cell 1,h.An.cell 2,h.An.cell 3,h.An.cell 4⟩
theorem Dz.LN{w:World}{F:Fs}{g:Gz}{E bg n j x:Nat}{q:AA}(h:Dz w F g E)(p:F.bv=.slice (some ⟨bg,0,none⟩) n j)(o:F.P[x]?=some q)(C:x<=g.top):w.cell? ⟨bg,x,none⟩=some (.pointer (some ⟨q.h,0,none⟩)):=by
 obtain⟨t,c2,i,-,l⟩:=h.bv.at_ (i:=x) (p:=q) (by rw[List.getElem?_take,if_pos (by omega)];exact o);rw[p]at i;cases i
 exact l
theorem Dz.Mp{w:World}{F:Fs}{g:Gz}{E j n o x:Nat}{q:AA}(h:Dz w F g E)(t:F.hv=.slice (some ⟨j,0,none⟩) n o)(p:F.P[g.top+1+x]?=some q)(I:x<=g.top):w.cell? ⟨j,x,none⟩=some (.pointer (some ⟨q.h,0,none⟩)):=by
 obtain⟨C,c2,i,-,l⟩:=h.hv.at_ (i:=x) (p:=q) (by rw[List.getElem?_drop];exact p);rw[t]at i;cases i
 exact l
theorem Y2{E i x:Nat}{l C:List Nat}{m:Bool}(h:E.testBit x=true):DF E i (x::l) C m=DF E i l (C.set i (C.getD i 0|||C.getD x 0)) ((C.getD i 0|||C.getD x 0) != C.getD i 0||m):=by rw[DF,if_pos h]
theorem Zz{E i x:Nat}{l C:List Nat}{m:Bool}(h:E.testBit x=false):DF E i (x::l) C m=(C.set i (C.getD i 0|||C.getD x 0),(C.getD i 0|||C.getD x 0) != C.getD i 0||m,false):=by rw[DF,if_neg (by simp[h])]
def NO(w:World)(n:Nat)(Q:List AA)(p:AA)(r:List Nat×Bool×Bool)(e:Ending)(w':World):Prop:=e=.returned (.tuple #[.bool r.2.1,.bool r.2.2])/\Bu w' n Q r.1/\Aj p.X w w'
theorem M7{w:World}{F:Fs}{g:Gz}{E:Nat}{Q:List AA}{C:List Nat}(h:Dz w F g E)(hf:Bu w (g.nt+1) Q C)(ar:F.P <+: Q){i:Nat}{p:AA}(hp:Q[i]?=some p)(aq:F.e.wb≠p.wb){lv:Value}{l:List Nat}(hl:Bz w lv l)(hx:∀x∈l,x<=g.top) :
  Calls Tryz.prog 197 #[.pointer (some ⟨F.q,0,none⟩),p.v,lv] w (NO w (g.nt+1) Q p (DF E i l C false)):=by
 have ad:=hf.at_ i p hp;have I:Hid (∀y,Aj p.X w y->Dz y F g E):=Hd (fun y t=>h.Aw t ad aq);obtain⟨⟨A,c,rfl,hc⟩,hs,az⟩:=hl;have au:=ad.words;have HC:Hid (∀y,Aj p.X w y->∀(k x:Nat),l[k]?=some x->∃b off,A=some ⟨b,off,none⟩/\y.cell? ⟨b,off+k,none⟩=some (.int .i64 x)):=Hd (fun y t k x hk=>by
  obtain⟨b,off,hA,ab,aa⟩:=hc k x hk;refine⟨b,off,hA,?_⟩;have ay:b≠p.wb:=by rintro rfl;have:=aa;have h2:=au.cell (off+k);rw[h2]at this;unfold CK at this;rw[List.getElem?_toArray,pG]at this;obtain⟨z,_,hz⟩:=Option.map_eq_some_iff.1 this;cases hz
  rw[World.cell?_of_block (w:=w) (t.block b ab ay)];exact aa)
 have HX:=Hd hx;have av:=Hd hf;have HP:=Hd hp;have aw:=Hd ar;have b5:=h.top;obtain⟨bg,bc,hg,b4,a5,-,b3,-⟩:=h.open_;have b0:=h.Iq;clear hc hx ad au hf hp ar aq h az;unfold NO;generalize hR:DF E i l C false=al;have HR:=Hd hR;clear hR;obtain⟨C',m',ax⟩:=al;simp only;unfold AA.v;go_enter Tryz.func197,Tryz.ntmps197
 go_wp2_with fail
 go_loopw [8,13] (fun mo ii wr=>∃(j:Nat) (o:List Nat) (m:Bool),j<=l.length/\ii=.int .i64 j/\mo=.bool m/\Hid (Bu wr (g.nt+1) Q o)/\Hid (Aj p.X w wr)/\Hid (DF E i (l.drop j) o m=(C',m',ax))) (fun _ ii _=>l.length-(intOf ii).toNat)
 case atStart=>exact⟨0,C,false,AP _,rfl,rfl,av,Hd (Aj.refl _ _),HR⟩
 case round=>
  obtain⟨j,o,m,hj,rfl,rfl,a7,U,a0⟩:=hrel;by_cases ab:j<l.length
  ·have a3:=eG ab
   generalize l[j]=x at a3;have af:=HX.out x (mG a3);have ao:=Er a3;rw[ao]at a0;obtain⟨b,off,rfl,aa⟩:=HC.out wr U.out j x a3;obtain⟨q,ae⟩:∃q,F.P[x]?=some q:=⟨_,eG (by omega)⟩
   have ai:=Hd ae;have HQ:Hid (Q[x]?=some q):=Hd (by obtain⟨al,hR⟩:=aw.out;rw[<-hR,gL (by omega)];exact ae)
   obtain⟨q0,q1,-,-,-⟩:=(I.out wr U.out).cells;have ak:Hid (∀y,Calls Tryz.prog 215 #[.agg #[.int .i64 g.nt,.int .i64 g.top],.int .i64 x] y (Bb y true)):=Hd (fun y=>by have:=hC y g.nt g.top x;rwa [decide_eq_true af]at this);have ah:Hid (∀y,Bu y (g.nt+1) Q o->Calls Tryz.prog 157 #[.pointer (some ⟨p.h,0,none⟩),.pointer (some ⟨q.h,0,none⟩)] y fun e w'=>e=.returned (.bool (o.getD i 0|||o.getD x 0 != o.getD i 0))/\Bu w' (g.nt+1) Q (o.set i (o.getD i 0|||o.getD x 0))/\Aj p.X y w'):=Hd (fun y t=>by
    refine(G2 (t.at_ i p HP.out) (t.at_ x q HQ.out) ?_).mono ?_
    ·rw[t.room p (mG HP.out),t.room q (mG HQ.out)]
    ·rintro e w' ⟨he,h1,h2⟩
     exact⟨he,t.EG HP.out h1 h2,h2⟩)
   have ag:Hid (∀y,Aj p.X w y->Calls Tryz.prog 39 #[.pointer (some ⟨F.e.h,0,none⟩),.int .i64 x] y fun e w'=>e=.returned (.bool (E.testBit x))/\w'=y):=Hd (fun y t=>LK (I.out y t).e (by rw[(I.out y t).en];omega));have a9:=Hd (fun h=>Y2 (E:=E) (i:=i) (x:=x) (l:=l.drop (j+1)) (C:=o) (m:=m) h);have a8:=Hd (fun h=>Zz (E:=E) (i:=i) (x:=x) (l:=l.drop (j+1)) (C:=o) (m:=m) h);clear a3 ao ae;generalize (o.getD i 0|||o.getD x 0 != o.getD i 0)=b1 at *;generalize o.set i (o.getD i 0|||o.getD x 0)=Cn at *;generalize an:E.testBit x=b2 at *;cases b2
   ·have T:=a8.out rfl
    rw[a0.out]at T;cases T
    clear an a8 a9;cases b1
    all_goals go_wp2_with (first
     | (
      go_at_call 215;refine(ak.out _).mono ?_;rintro e w1 ⟨rfl,R⟩
      have P:=Hd (U.out.next (Aj.AH R));have a6:=Hd (a7.out.later R);have d1:=(I.out w1 P.out).LN a5 ai.out af;obtain⟨-,-,-,d2,-⟩:=(I.out w1 P.out).cells;rw[a5]at d2;clear R)
     | (
      go_at_call 157;refine(ah.out _ a6.out).mono ?_;rintro e w2 ⟨rfl,a2,a1⟩
      have J:=Hd (P.out.next a1);have a4:=Hd a2;obtain⟨-,-,d3,-,-⟩:=(I.out w2 J.out).cells;clear a2 a1)
     | (go_at_call 39;refine(ag.out _ J.out).mono ?_;rintro e w3 ⟨rfl,rfl⟩))
    all_goals go_ret2
    all_goals exact⟨rfl,a4.out,J.out⟩
   ·have T:=a9.out rfl
    rw[a0.out]at T;have aj:=Hd T.symm;clear an a8 a9 T a0;cases b1
    all_goals go_wp2_with (first
     | (
      go_at_call 215;refine(ak.out _).mono ?_;rintro e w1 ⟨rfl,R⟩
      have P:=Hd (U.out.next (Aj.AH R));have a6:=Hd (a7.out.later R);have d1:=(I.out w1 P.out).LN a5 ai.out af;obtain⟨-,-,-,d2,-⟩:=(I.out w1 P.out).cells;rw[a5]at d2;clear R)
     | (
      go_at_call 157;refine(ah.out _ a6.out).mono ?_;rintro e w2 ⟨rfl,a2,a1⟩
      have J:=Hd (P.out.next a1);have a4:=Hd a2;obtain⟨-,-,d3,-,-⟩:=(I.out w2 J.out).cells;clear a2 a1)
     | (go_at_call 39;refine(ag.out _ J.out).mono ?_;rintro e w3 ⟨rfl,rfl⟩))
    all_goals go_roundw
    all_goals first
     | exact⟨j+1,Cn,m,by omega,by go_num,rfl,a4,J,aj⟩
     | exact⟨j+1,Cn,true,by omega,by go_num,rfl,a4,J,aj⟩
     | (simp[intOf];omega)
  ·obtain rfl:j=l.length:=by omega
   have e:=a0.out;rw[List.drop_length,DF]at e;cases e
   go_wp2_with fail
   go_ret2
   exact⟨rfl,a7.out,U.out⟩
end Go.Proofs.YthaacmablcpdfaaGreatDoor
