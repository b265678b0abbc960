/- Grammars that may be. A grammar's rule. What symbols begin with. What symbols begin with. What symbols begin with. -/
import Derived.Test.YthaacmablcpdfaaGreatDoorXae
import Derived.Test.YthaacmablcpdfaaGreatDoorXnm
set_option linter.all false
set_option maxRecDepth 100000
set_option maxHeartbeats 16000000
namespace Go.Proofs.YthaacmablcpdfaaGreatDoor
open Go.RowKit
variable{w':World}{l:List Nat}{B S i:Nat}{p t:AI}{T:List TypeId}{m:Bool}
structure Gz where
 nt:Nat
 nn:Nat
 s:Nat
 R:List (Nat×List Nat)
variable{s:AI}
abbrev It:=Nat×Nat
namespace Gz
def top(g:Gz):Nat:=g.nt+g.nn
def BJ(g:Gz)(x:Nat):Bool:=decide (g.nt<x)&&decide (x<=g.top)
def Bb(g:Gz)(k:Nat):Nat×List Nat:=if k=g.R.length then(0,[g.s]) else g.R.getD k (0,[])
def right(g:Gz)(k:Nat):List Nat:=(g.Bb k).2
def CF(g:Gz)(s:Nat):List Nat:=(List.range g.R.length).filter fun k=>(g.R.getD k (0,[])).1==s
end Gz
def Gz.FB(i:Gm):Gz:=⟨i.T.length,i.N.length,i.s.toNat,i.R.map fun r=>(r.left.toNat,r.right.map Int.toNat)⟩
structure GN(w:World)(v:Value)(g:Gz):Prop where
 E4:∃gm,Dc w v gm/\gm.check=0/\g=Gz.FB gm
variable{v:Value}
structure Gz.Fit(g:Gz):Prop where
 nt:g.nt<=120
 nn:g.nn<=120
 nr:g.R.length<=300
 short:∀r∈g.R,r.2.length<=8
 start:g.nt<g.s/\g.s<=g.top
 left:∀r∈g.R,g.nt<r.1/\r.1<=g.top
 right:∀r∈g.R,∀x∈r.2,1<=x/\x<=g.top
def EL{w:World}{base base':Nat}{e:TypeId}{size n:Nat}{xs:List Value}(h:w.ownsRow base e size v n xs)(l:base'<=base):w.ownsRow base' e size v n xs:=by
 refine⟨h.1,?_⟩;rcases h.2 with o|⟨g,cap,i,rfl,j,rest⟩
 ·exact .inl o
 ·exact .inr ⟨g,cap,i,rfl,AY l j,rest⟩
def GN.later{w:World}{g:Gz}(h:GN w v g)(p:Below w w w'):GN w' v g:=by obtain⟨i,j,l,o⟩:=h.E4;exact⟨i,j.later p,l,o⟩
def GN.fit{w:World}{g:Gz}(h:GN w v g):g.Fit:=by
 obtain⟨t,h1,R,rfl⟩:=h.E4;obtain⟨l,-,-,o,-,-⟩:=O2 R;unfold Gm.B3 at l;simp only[Bool.and_eq_true,decide_eq_true_eq]at l;obtain⟨⟨C,I⟩,J,P⟩:=l;have hs:=Tr o;have p:∀r∈(Gz.FB t).R,∃q∈t.R,r=(q.left.toNat,q.right.map Int.toNat):=fun r i=>by unfold Gz.FB at i;obtain⟨q,j,rfl⟩:=List.mem_map.1 i;exact⟨q,j,rfl⟩
 refine⟨C,I,by unfold Gz.FB;simpa using J,?_,?_,?_,?_⟩
 ·intro r i
  obtain⟨q,j,rfl⟩:=p r i;have:=List.all_eq_true.1 P q j;unfold IJ at this;simpa using this
 ·unfold Gz.top Gz.FB;simp only;omega
 ·intro r i
  obtain⟨q,j,rfl⟩:=p r i;have:=(La o j).1;unfold Gz.top Gz.FB;simp only;omega
 ·intro r i x T
  obtain⟨q,j,rfl⟩:=p r i;obtain⟨y,U,rfl⟩:=List.mem_map.1 T;have:=(La o j).2 y U;unfold Gz.top Gz.FB;simp only;omega
abbrev BF(w:World)(v:Value)(l:List Nat):Prop:=Bv AO w v l
def Zv{w:World}{l:List Int}(h:Bv BP w v l)(h0:∀x∈l,0<=x):BF w v (l.map Int.toNat):=by obtain⟨⟨A,c,P,p⟩,J,I⟩:=h;refine⟨⟨A,c,by rw[P,lM],fun k x i=>?_⟩,by rw[lM];exact J,I⟩;rw[pG]at i;obtain⟨y,j,rfl⟩:=Option.map_eq_some_iff.1 i;obtain⟨b,off,o,C,t⟩:=p k y j;have:=h0 y (mG j);refine⟨b,off,o,C,?_⟩;rw[t];unfold BP AO;rw[show ((y.toNat:Nat):Int)=y by omega]
def Hh{w:World}(h:w.ownsRow B 3 1 v l.length (l.map AO))(j:l.length<=4611686018427387904):BF w v l:=by
 rcases Bk h with⟨rfl,h0⟩|⟨b,c,rfl,C,o,p,I,_⟩
 ·exact⟨⟨none,0,by rw[h0],fun k x i=>by have:=(sG.1 i).1;omega⟩,j,fun A n c e=>by cases e;exact⟨AG _,fun _=>rfl⟩⟩
 ·refine⟨⟨_,c,rfl,fun k x i=>⟨b,0,rfl,o,?_⟩⟩,j,fun A n t e=>by cases e;exact⟨p,fun e=>by cases e⟩⟩
  have J:=(sG.1 i).1;rw[Nat.zero_add,Bg h k (by omega),pG,i];rfl
def GN.open_{w:World}{g:Gz}(h:GN w v g):∃o t l p i j,v=.agg #[.slice o g.nt t,.slice l g.nn p,.slice i g.R.length j,g.s] /\
  (∀k r,g.R[k]?=some r->∃b off rv,i=some ⟨b,off,none⟩/\b<w.heap.size/\w.cell? ⟨b,off+k*2,none⟩=some (.int .i64 r.1)/\w.cell? ⟨b,off+k*2+1,none⟩=some rv/\BF w rv r.2)/\g.R.length<=j:=by
 obtain⟨I,h1,h2,rfl⟩:=h.E4;obtain⟨hf,-,-,P,-,-⟩:=O2 h2;obtain⟨o,t,l,p,i,j,hv,hT,hN,J⟩:=h1.open_;have a2:=Tr P;refine⟨o,t,l,p,i,j,?_,?_,?_⟩
 ·rw[hv]
  unfold Gz.FB;simp only[lM];rw[show ((I.s.toNat:Nat):Int)=I.s by omega]
 ·intro k r C
  unfold Gz.FB at C;simp only[pG]at C;obtain⟨q,R,rfl⟩:=Option.map_eq_some_iff.1 C;obtain⟨⟨A,c,he,hc⟩,-,-⟩:=J;cases he
  obtain⟨b,off,hA,a0,T,U,e3⟩:=hc k q R;obtain⟨k1,k2⟩:=La P (mG R);refine⟨b,off,q.v,hA,a0,?_,U,Zv e3 (fun x hx=>by have:=k2 x hx;omega)⟩;rw[T];simp only;rw[show ((q.left.toNat:Nat):Int)=q.left by omega]
 ·obtain⟨-,-,a1⟩:=J
  have:=(a1 _ _ _ rfl).1;unfold Gz.FB;simp only[lM];exact this
section
variable {w:World} {v:Value} {g:Gz}
def Lq(h:GN w v g):() 38 #[v] w fun e w'=>e=.returned g.top/\Below w w w':=by obtain⟨l,i,o,rfl⟩:=h.E4;refine(Mm i).mono ?_;rintro e w' ⟨rfl,j⟩;exact⟨rfl,j⟩
def Ml(h:GN w v g)(x:Nat):() 40 #[v,x] w (Br w (g.BJ x)):=by
 obtain⟨i,j,l,rfl⟩:=h.E4;have e:i.BJ (x:Int)=(Gz.FB i).BJ x:=by unfold Gm.BJ Gz.BJ Gz.top Gz.FB;rw[Bool.eq_iff_iff];simp only[Bool.and_eq_true,decide_eq_true_eq];omega
 rw[<-e];exact Lj j x
def NO(h:GN w v g):() 35 #[v] w fun e w'=>e=.returned (.int .i64 0)/\Below w w w':=by obtain⟨o,j,l,rfl⟩:=h.E4;refine(Qn j).mono ?_;intro e w' i;rw[l]at i;exact i
def Y9(h:GN w v g)(s:Nat):() 83 #[v,s] w fun e w'=>∃o,e=.returned o/\C8 3 w ((g.CF s).map AO) o w':=by
 obtain⟨j,I,J,rfl⟩:=h.E4;refine(QB I s).mono ?_;rintro e w' ⟨o,rfl,A,c,rfl,t,P⟩;obtain⟨U,-,-,T,-,-⟩:=O2 J;have p:(Dx j.R (s:Int) j.R.length).map BP=((Gz.FB j).CF s).map AO:=by
  unfold Dx Gz.CF Gz.FB;simp only[List.map_map,lM];have C:(List.range j.R.length).filter (fun i=>(j.R[i]?.map (Gm.left (s:Int))).getD false)=(List.range j.R.length).filter (fun k=>((j.R.map fun r=>(r.left.toNat,r.right.map Int.toNat)).getD k (0,[])).1==s):=by apply List.filter_congr;intro k l;rw[List.mem_range]at l;rw[dG,pG,eG l];have:=(La T (List.getElem_mem l)).1;simp only[Option.map_some,Option.getD_some,Gm.left];rw[Bool.eq_iff_iff,beq_iff_eq,beq_iff_eq];omega
  rw[C];rfl
 rw[p]at t;have R:=Eu P;refine⟨_,rfl,A,c,by rw[<-p],?_,R⟩;exact EL t (by simp)
end
def M3{fn:Func}{p u:Tmp}{ty:TypeId}{P:Program}{w:World}{tmps:Array Value}{a:Addr}(h:fn.results=#[.cell p ty,.tmp u])(i:tmps.getD p undef=.pointer (some a))(j:(loadVar ty a).run P w=.ok v w) :
  (results fn tmps).run P w=.ok (.tuple #[v,tmps.getD u undef]) w:=by
 rw[Array.getD_eq_getD_getElem?]at i;simp only[results,h];simp[Result.andThen,i,asAddr,j]
def MO{y:World}{b:Nat}{u rv:Value}(h:y.cell? (b,0)=some u)(i:y.cell? (b,1)=some rv):(loadVar 65 (b,0)).run Tryz.prog y=.ok (.agg #[u,rv]) y:=by simp[go_sem,h,i]
def NY(w:World)(g:Gz)(k:Nat)(e:Ending)(w':World):Prop:=∃i,e=.returned (.tuple #[.agg #[.int .i64 ((g.Bb k).1:Nat),i],.bool true])/\BF w' i (g.right k)/\Below w w w'
def eK{w:World}{g:Gz}(h:GN w v g){k:Nat}(hk:k<=g.R.length):() 26 #[v,k] w (NY w g k):=by
 have hf:=h.fit.nr;obtain⟨J,U,C,R,I,T,rfl,l,a0⟩:=h.open_;have HG:=Hd (Ah.new w 32 #[.slice J g.nt U,.slice C g.nn R,.slice I g.R.length T,g.s]);by_cases p:k=g.R.length
 ·have i:g.Bb k=(0,[g.s]):=by unfold Gz.Bb;rw[if_pos p]
  unfold NY Gz.right;rw[i];clear h l;generalize g.R.length=nR at *;subst p;generalize g.nt=nt at *;generalize g.nn=nn at *;generalize g.s=j at *;go_enter Tryz.func26,Tryz.ntmps26
  go_wp2_with fail
  refine bodyPost_ret (M3 rfl rfl (MO (b:=w.heap.size+1) (u:=.int .i64 0) (rv:=.slice (w.heap.size+1+1,0) 1 1) ?_ ?_)) rfl ?_
  ·exact(Ah.alloc (Ah.newAt (by simp)) _).cell 0
  ·exact(Ah.alloc (Ah.newAt (by simp)) _).cell 1
  ·refine⟨_,rfl,?_,((AH w _).alloc (by simp) _).alloc (by simp;omega) _⟩
   refine Hh (B:=0) (l:=[j]) ?_ (by simp);refine⟨rfl,.inr ⟨w.heap.size+1+1,1,#[j],rfl,AZ _,?_,by simp,by decide,rfl,rfl⟩⟩;exact Ah.newAt (by simp)
 ·obtain⟨r,t⟩:∃r,g.R[k]?=some r:=⟨_,eG (by omega)⟩
  obtain⟨b,off,rv,rfl,hb,c0,c1,o⟩:=l k r t;have i:g.Bb k=r:=by unfold Gz.Bb;rw[if_neg p,dG,t];rfl
  unfold NY Gz.right;rw[i];have P:=Hd o;obtain⟨⟨ra,rc,rfl,-⟩,-,-⟩:=id o;have a1:k<g.R.length:=by omega
  clear h l o t i;obtain⟨rl,rr⟩:=r;simp only at *;generalize rr.length=rn at *;generalize g.R.length=nR at *;generalize g.nt=nt at *;generalize g.nn=nn at *;generalize g.s=j at *;go_enter Tryz.func26,Tryz.ntmps26
  go_wp2_with fail
  refine bodyPost_ret (M3 rfl rfl (MO (b:=w.heap.size+1) (u:=.int .i64 rl) (rv:=.slice ra rn rc) ?_ ?_)) rfl ?_
  ·exact(Ah.newAt (by simp)).cell 0
  ·exact(Ah.newAt (by simp)).cell 1
  ·exact⟨_,rfl,P.later (((AH w _).alloc (by simp) _)),((AH w _).alloc (by simp) _)⟩
def DD(E i:Nat):List Nat->List Nat->Bool->List Nat×Bool×Bool
 | [],C,m=>(C,m,true)
 | x::l,C,m=>
  if E.testBit x then DD E i l (C.set i (C.getD i 0|||C.getD x 0)) ((C.getD i 0|||C.getD x 0) != C.getD i 0||m)
  else(C.set i (C.getD i 0|||C.getD x 0),(C.getD i 0|||C.getD x 0) != C.getD i 0||m,false)
def D0:List (Nat×List Nat)->Nat->List Nat->Bool->Nat×List Nat×Bool
 | [],E,C,more=>(E,C,more)
 | r::l,E,C,more=>
  match DD E r.1 r.2 C false with
  | (i,m,all)=>D0 l (if all then E|||2 ^ r.1 else E) i (more||((all&&!E.testBit r.1)||m))
def Jg(g:Gz):Nat->Nat->List Nat->Option (Nat×List Nat)
 | 0,_,_=>none
 | f+1,E,C=>match D0 g.R E C false with
  | (j,i,true)=>Jg g f j i
  | (j,i,false)=>some (j,i)
def EY(g:Gz)(E o left:Nat):List Nat->List Nat->Bool->List Nat×Bool
 | [],C,more=>(C,more)
 | x::l,C,more=>
  if g.BJ x then
   match DD E (o+x) l C false with
   | (i,m,true)=>EY g E o left l (i.set (o+x) (i.getD (o+x) 0|||i.getD (o+left) 0)) (more||((i.getD (o+x) 0|||i.getD (o+left) 0) != i.getD (o+x) 0||m))
   | (i,m,false)=>EY g E o left l i (more||m)
  else EY g E o left l C more
def GQ(g:Gz)(E o:Nat):List (Nat×List Nat)->List Nat->Bool->List Nat×Bool
 | [],C,more=>(C,more)
 | r::l,C,more=>match EY g E o r.1 r.2 C false with|(i,m)=>GQ g E o l i (more||m)
def Ia(g:Gz)(E o:Nat):Nat->List Nat->Option (List Nat)
 | 0,_=>none
 | f+1,C=>match GQ g E o g.R C false with
  | (i,true)=>Ia g E o f i
  | (i,false)=>some i
def Js(g:Gz):List Nat:=(List.range (g.top+1)).map (fun x=>if x<=g.nt then 2 ^ x else 0)++List.replicate (g.top+1) 0
def J9(g:Gz)(f:Nat):Option (Nat×List Nat):=
 match Jg g f 0 (Js g) with
 | none=>none
 | some (E,C)=>match Ia g E (g.top+1) f (C.set (g.top+1+g.s) (C.getD (g.top+1+g.s) 0|||1)) with
  | none=>none
  | some i=>some (E,i)
def Dp(E:Nat)(C:List Nat):List Nat->Nat->Nat×Bool
 | [],S=>(S,true)
 | x::l,S=>if E.testBit x then Dp E C l (S|||C.getD x 0) else(S|||C.getD x 0,false)
theorem UA{E:Nat}{C:List Nat}:∀(l:List Nat) (S:Nat) (m:Bool),(∀x∈l,x<C.length)->∃I,DD E C.length l (C++[S]) m=(C++[(Dp E C l S).1],I,(Dp E C l S).2)
 | [],S,m,_=>⟨m,rfl⟩
 | x::l,S,m,h=>by
  have p:=h x (by simp);have i:(C++[S]).getD C.length 0=S:=by simp
  have j:(C++[S]).getD x 0=C.getD x 0:=by rw[dG,gL p,dG]
  have o:∀T,(C++[S]).set C.length T=C++[T]:=fun T=>by simp
  unfold DD Dp;rw[i,j,o];split
  ·exact UA l _ _ (fun y t=>h y (by simp[t]))
  ·exact⟨_,rfl⟩
def Hk{w:World}{T:Nat}(h:AU w s S)(j:AU w t T)(i:t.n=s.n):() 157 #[s.v,t.v] w fun e w'=>e=.returned (.bool (S|||T != S))/\AU w' s (S|||T)/\Aj s.X w w':=by have e:C7 S T (nW s.n)=S|||T:=YY h.fit (by rw[<-i];exact j.fit);rw[<-e];exact iI h j i
structure BA(w:World)(n:Nat)(P:List AI)(C:List Nat):Prop where
 len:P.length=C.length
 room:∀p∈P,p.n=n
 at_:∀i p,P[i]?=some p->AU w p (C.getD i 0)
 apart:(P.map AI.wb).Nodup
variable{C:List Nat}
def Pp(h:l.Nodup){j a:Nat}(I:l[i]?=some a)(J:l[j]?=some a):i=j:=by obtain⟨t,o⟩:=sG.1 I;obtain⟨C,p⟩:=sG.1 J;exact(List.getElem_inj (h₀:=t) (h₁:=C) h).1 (o.trans p.symm)
def AU.head_ne{w:World}{T:Nat}(h:AU w s S)(i:AU w t T):s.h≠t.wb:=Ah.Bh h.head i.words (by decide)
def BA.ER{w:World}{n:Nat}{P:List AI}(h:BA w n P C){T:Nat}(l:P[i]?=some p)(U:AU w' p T)(J:Aj p.X w w'):BA w' n P (C.set i T):=by
 have R:=(sG.1 l).1;refine⟨by rw[List.length_set];exact h.len,h.room,fun j q o=>?_,h.apart⟩;by_cases t:i=j
 ·subst t
  rw[l]at o;cases o
  rw[dG,tG (by rw[<-h.len];exact R)];exact U
 ·rw[dG,uG t,<-dG]
  have I:=h.at_ j q o;refine I.AF J (I.head_ne (h.at_ i p l)) ?_;intro e;refine t (Pp h.apart (a:=p.wb) ?_ ?_)
  ·rw[pG,l];rfl
  ·rw[pG,o];exact congrArg some e
def BA.AF{w:World}{n:Nat}{P:List AI}{X:Nat->Prop}(h:BA w n P C)(o:Aj X w w')(l:∀p∈P,¬X p.h/\¬X p.wb):BA w' n P C:=
 ⟨h.len,h.room,fun i p j=>(h.at_ i p j).AF o (l p (mG j)).1 (l p (mG j)).2,h.apart⟩
def BA.later{w:World}{n:Nat}{P:List AI}(h:BA w n P C)(i:Below w w w'):BA w' n P C:=
 h.AF (X:=fun _=>False) (Aj.AK i) (fun _ _=>⟨id,id⟩)
def BA.lt{w:World}{n:Nat}{P:List AI}(h:BA w n P C)(l:p∈P):p.h<w.heap.size/\p.wb<w.heap.size:=by obtain⟨i,j,rfl⟩:=List.mem_iff_getElem.1 l;have:=h.at_ i _ (eG j);exact⟨this.head.lt,this.words.lt⟩
def BA.push{w:World}{n:Nat}{P:List AI}(h:BA w n P C){T:Nat}(I:Below w w w')(U:AU w' t T)(R:t.n=n)(a0:w.heap.size<=t.wb):BA w' n (P++[t]) (C++[T]):=by
 refine⟨by simp[h.len],?_,?_,?_⟩
 ·intro p j
  rw[mA,mS]at j;rcases j with j|rfl
  ·exact h.room p j
  ·exact R
 ·intro i p j
  by_cases o:i<P.length
  ·rw[gL o]at j
   rw[dG,gL (by rw[<-h.len];exact o),<-dG];exact(h.at_ i p j).later I
  ·have J:i=P.length:=by
    have:=(sG.1 j).1;simp at this;omega
   subst J;simp at j;subst j;rw[h.len];simpa using U
 ·rw[Bw,List.nodup_append]
  refine⟨h.apart,by simp,?_⟩;intro a ha b l;simp at l;subst l;obtain⟨p,j,rfl⟩:=List.mem_map.1 ha;have:=(h.lt j).2;omega
def eI(w:World)(a b x:Nat):() 215 #[.agg #[a,b],x] w (Br w (decide (x<=b))):=by
 go_enter Tryz.func215,Tryz.ntmps215
 go_wp2;go_ret;exact⟨Ci (by simp),AH _ _⟩
def Ws(w:World)(a b x:Nat):() 216 #[.agg #[a,b],x] w (Br w (decide (a<x)&&decide (x<=b))):=by
 go_enter Tryz.func216,Tryz.ntmps216
 go_wp2;all_goals go_ret
 all_goals exact⟨Ci (by simp[*]),AH _ _⟩
def RN:El Tryz.prog 189 90 1 8:=El.of (z:=.pointer none) Tryz.underlying189 (by kernel_rfl) rfl (by decide)
def AU.keeps{w:World}(h:AU w s S)(i:AJ B T w w')(j:161 ∉ T)(l:156 ∉ T):AU w' s S:=
 ⟨i.Ap h.head (.inr j),i.Ap h.words (.inr l),h.small,h.fit⟩
def BA.keeps{w:World}{n:Nat}{P:List AI}(h:BA w n P C)(o:AJ B T w w')(j:161 ∉ T)(l:156 ∉ T):BA w' n P C:=
 ⟨h.len,h.room,fun i p t=>(h.at_ i p t).keeps o j l,h.apart⟩
def BA.nil(w:World)(n:Nat):BA w n [] (List.replicate 0 0):=⟨rfl,(fun p j=>by cases j),(fun i p j=>by cases j),List.nodup_nil⟩
def Je(w:World)(B:Nat)(v:Value)(P:List AI):Prop:=w.ownsRow B 90 1 v P.length (P.map AI.v)
structure LL(w:World)(n k:Nat)(o:Value)(wr:World):Prop where
 row:∃A c P,o=.slice A k c/\P.length=k/\Je wr w.heap.size (.slice A k c) P/\BA wr n P (List.replicate k 0)/\(∀p∈P,w.heap.size<=p.h/\w.heap.size<=p.wb)
 below:Below w w wr
def XH{w:World}{k n:Nat}(hk:k<=1000)(h1:1<=n)(h2:n<=4096):() 196 #[k,n] w fun e w'=>∃o,e=.returned o/\LL w n k o w':=by
 have HN:=Hd (fun y=>LF (w:=y) h1 h2);go_enter Tryz.func196,Tryz.ntmps196
 go_wp2_with fail
 go_loopw [5,7] (fun o i wr=>∃j:Nat,j<=k/\i=.int .i64 j/\Hid (LL w n j o wr)) (fun _ i _=>k-(intOf i).toNat)
 case atStart=>refine⟨0,AZ _,rfl,Hd ⟨⟨none,0,[],rfl,rfl,⟨rfl,.inl ⟨rfl,rfl⟩⟩,BA.nil _ _,fun a4 p=>by cases p⟩,Below.refl _ _⟩⟩
 case round=>
  obtain⟨j,hj,rfl,l⟩:=hrel;by_cases ab:j<k
  ·obtain⟨A,c,P,rfl,R,C,a0,a1⟩:=l.row
   have J:=Hd l.below;have a2:wr.ownsRow w 90 1 (.slice A j c) j (P.map AI.v):=by unfold Je at C;rw[R]at C;exact C
   have a7:=Hd a2;have a5:=Hd a0;have a6:=Hd a1;have HP:=Hd R;have a8:=Hd (Lg 90 (wr.heap.size+1,0) rfl);clear C a2 a0 a1 R l;go_wp2_with (first
    | (
     go_at_call 84;refine(HN _).mono ?_;rintro e T ⟨rfl,hs,hb⟩
     have HS:=Hd hs;have t:=Hd hb;unfold AI.v;clear hs hb)
    | (
     at_builtin;refine DY RN (.tmp 9) (.tmp 12) rfl rfl (base:=w.heap.size) (n:=j) (m:=1) (N:=j+1) (xs:=P.map AI.v) (news:=[.pointer (some ⟨wr.heap.size+1,0,none⟩)]) rfl rfl ((AV a7 t).alloc _) (a8 _) rfl (by unfold maxLen;omega) (by omega) (by have:=J.size;have:=t.size;simp;omega) ?_
     intro U c2 w2 r1 I r3;have l:Hid (LL w n (j+1) (.slice U (j+1) c2) w2):=Hd (by
      have a3:=J.size;have ae:=t.size;have ad:AU w2 ⟨wr.heap.size+1,wr.heap.size,n⟩ 0:=(HS.later (AH T _)).keeps I (by decide) (by decide);have a9:=(a5.push (t:=⟨wr.heap.size+1,wr.heap.size,n⟩) (T:=0) t HS rfl (AG _))
      have aa:=(a9.later (AH T (.cells #[(wr.heap.size+1,0)] 90))).keeps I (by decide) (by decide);refine⟨⟨U,c2,P++[⟨wr.heap.size+1,wr.heap.size,n⟩],rfl,by simp[HP.out],?_,?_,?_⟩,?_⟩
      ·unfold Je
       rw[show (P++[(⟨wr.heap.size+1,wr.heap.size,n⟩:AI)]).length=j+1 by simp[HP.out],Bw];exact r1
      ·rw[List.replicate_succ']
       exact aa
      ·intro a4 p
       rw[mA,mS]at p;rcases p with p|rfl
       ·exact a6 a4 p
       ·exact⟨by show w.heap.size<=wr.heap.size+1;omega,a3⟩
      ·exact(J.trans (t.mono a3)).trans (((AH T _).mono (by omega)).trans (I.below (by simp;omega))))
     clear r1 I r3))
   go_roundw
   case rel=>exact⟨j+1,by omega,by go_num,l⟩
   case measure=>simp[intOf];omega
  ·obtain rfl:j=k:=by omega
   go_wp2_with fail
   go_ret;exact⟨_,rfl,l⟩
structure Fs where
 q:Nat
 e:AI
 P:List AI
 bv:Value
 hv:Value
structure DB(w:World)(F:Fs)(g:Gz)(E:Nat):Prop where
 Ap:Ah w F.q 279 #[g.nt,g.top,F.e.v,F.bv,F.hv]
 e:AU w F.e E
 en:F.e.n=g.top+1
 Ht:F.P.length=2*(g.top+1)
 bv:Je w 0 F.bv (F.P.take (g.top+1))
 hv:Je w 0 F.hv (F.P.drop (g.top+1))
 top:g.top<=1000
variable{w:World}{F:Fs}{g:Gz}{E:Nat}
def DB.AF(h:DB w F g E)(i:Aj p.X w w')(j:AU w p S)(o:F.e.wb≠p.wb):DB w' F g E:=
 ⟨i.Ap h.Ap (Ah.Bh h.Ap j.words (by decide)),h.e.AF i (h.e.head_ne j) o,h.en,h.Ht,
  i.own h.bv (fun k l e=>DK h.bv j.words (by decide) (by rw[l,show k=p.wb from e])),
  i.own h.hv (fun k l e=>DK h.hv j.words (by decide) (by rw[l,show k=p.wb from e])),h.top⟩
def DB.later(h:DB w F g E)(i:Below w w w'):DB w' F g E:=
 ⟨h.Ap.below i h.Ap.lt,h.e.later i,h.en,h.Ht,AV h.bv i,AV h.hv i,h.top⟩
def IC{i:Type}{l:List i}{k:Nat}{a:i}(h:l[k]?=some a):l.drop k=a::l.drop (k+1):=by obtain⟨j,e⟩:=sG.1 h;rw[List.drop_eq_getElem_cons j,e]
def Je.at_{P:List AI}(h:Je w B v P)(j:P[i]?=some p):∃g c,v=.slice (some ⟨g,0,none⟩) P.length c/\P.length<=c/\w.cell? ⟨g,i,none⟩=some p.v:=by
 have I:=(sG.1 j).1;rcases Bk h with⟨_,h0⟩|⟨g,c,rfl,o,t,l,C,-⟩
 ·omega
 ·refine⟨g,c,rfl,l,?_⟩
  have:=Bg h i (by omega);rw[this,pG,j];rfl
def DB.open_(h:DB w F g E):∃bg i l j,F.bv=.slice (some ⟨bg,0,none⟩) (g.top+1) i/\F.hv=.slice (some ⟨l,0,none⟩) (g.top+1) j/\g.top+1<=i/\g.top+1<=j:=by
 have J:=h.Ht;obtain⟨p,P⟩:∃p,(F.P.take (g.top+1))[0]?=some p:=⟨_,eG (by rw[List.length_take];omega)⟩
 obtain⟨q,R⟩:∃p,(F.P.drop (g.top+1))[0]?=some p:=⟨_,eG (by rw[List.length_drop];omega)⟩
 obtain⟨bg,i,o,t,-⟩:=h.bv.at_ P;obtain⟨l,j,C,I,-⟩:=h.hv.at_ R;rw[List.length_take,J,Nat.min_eq_left (by omega)]at o t;rw[List.length_drop,J,show 2*(g.top+1)-(g.top+1)=g.top+1 by omega]at C I;exact⟨bg,i,l,j,o,C,t,I⟩
def DB.cells(h:DB w F g E):w.cell? (F.q,0)=some (.int .i64 g.nt)/\w.cell? (F.q,1)=some (.int .i64 g.top)/\w.cell? (F.q,2)=some (.pointer (F.e.h,0))/\w.cell? (F.q,3)=some F.bv/\w.cell? (F.q,4)=some F.hv:=
 ⟨h.Ap.cell 0,h.Ap.cell 1,h.Ap.cell 2,h.Ap.cell 3,h.Ap.cell 4⟩
def DB.Me{bg n j x:Nat}{q:AI}(h:DB w F g E)(p:F.bv=.slice (bg,0) n j)(o:F.P[x]?=some q)(C:x<=g.top):w.cell? (bg,x)=some (.pointer (q.h,0)):=by
 obtain⟨t,c2,i,-,l⟩:=h.bv.at_ (i:=x) (p:=q) (by rw[List.getElem?_take,if_pos (by omega)];exact o);rw[p]at i;cases i
 exact l
def DB.Mi{j n o x:Nat}{q:AI}(h:DB w F g E)(t:F.hv=.slice (j,0) n o)(p:F.P[g.top+1+x]?=some q)(I:x<=g.top):w.cell? (j,x)=some (.pointer (q.h,0)):=by
 obtain⟨C,c2,i,-,l⟩:=h.hv.at_ (i:=x) (p:=q) (by rw[List.getElem?_drop];exact p);rw[t]at i;cases i
 exact l
def aH{x:Nat}(h:E.testBit x=true):DD E i (x::l) C m=DD E i l (C.set i (C.getD i 0|||C.getD x 0)) ((C.getD i 0|||C.getD x 0) != C.getD i 0||m):=by rw[DD,if_pos h]
def cW{x:Nat}(h:E.testBit x=false):DD E i (x::l) C m=(C.set i (C.getD i 0|||C.getD x 0),(C.getD i 0|||C.getD x 0) != C.getD i 0||m,false):=by rw[DD,if_neg (by simp[h])]
def O3(w:World)(n:Nat)(Q:List AI)(p:AI)(r:List Nat×Bool×Bool)(e:Ending)(w':World):Prop:=e=.returned (.tuple #[.bool r.2.1,.bool r.2.2])/\BA w' n Q r.1/\Aj p.X w w'
def Ol{Q:List AI}(h:DB w F g E)(hf:BA w (g.nt+1) Q C)(ar:F.P <+: Q)(hp:Q[i]?=some p)(aq:F.e.wb≠p.wb){lv:Value}(hl:BF w lv l)(hx:∀x∈l,x<=g.top) :
  () 197 #[(F.q,0),p.v,lv] w (O3 w (g.nt+1) Q p (DD E i l C false)):=by
 have ad:=hf.at_ i p hp;have I:Hid (∀y,Aj p.X w y->DB y F g E):=Hd (fun y t=>h.AF t ad aq);obtain⟨⟨A,c,rfl,hc⟩,hs,az⟩:=hl;have au:=ad.words;have HC:Hid (∀y,Aj p.X w y->∀(k x:Nat),l[k]?=some x->∃b off,A=some ⟨b,off,none⟩/\y.cell? ⟨b,off+k,none⟩=some (.int .i64 x)):=Hd (fun y t k x hk=>by
  obtain⟨b,off,hA,ab,aa⟩:=hc k x hk;refine⟨b,off,hA,?_⟩;have ay:b≠p.wb:=by rintro rfl;have:=aa;have h2:=au.cell (off+k);rw[h2]at this;unfold CT at this;rw[List.getElem?_toArray,pG]at this;obtain⟨z,_,hz⟩:=Option.map_eq_some_iff.1 this;cases hz
  rw[World.cell?_of_block (w:=w) (t.block b ab ay)];exact aa)
 have HX:=Hd hx;have av:=Hd hf;have HP:=Hd hp;have aw:=Hd ar;have b5:=h.top;obtain⟨bg,bc,hg,b4,a5,-,b3,-⟩:=h.open_;have b0:=h.Ht;clear hc hx ad au hf hp ar aq h az;unfold O3;generalize hR:DD E i l C false=al;have HR:=Hd hR;clear hR;obtain⟨C',m',ax⟩:=al;simp only;unfold AI.v;go_enter Tryz.func197,Tryz.ntmps197
 go_wp2_with fail
 go_loopw [8,13] (fun mo ii wr=>∃(j:Nat) (o:List Nat) (m:Bool),j<=l.length/\ii=.int .i64 j/\mo=.bool m/\Hid (BA wr (g.nt+1) Q o)/\Hid (Aj p.X w wr)/\Hid (DD E i (l.drop j) o m=(C',m',ax))) (fun _ ii _=>l.length-(intOf ii).toNat)
 case atStart=>exact⟨0,C,false,AZ _,rfl,rfl,av,Hd (Aj.refl _ _),HR⟩
 case round=>
  obtain⟨j,o,m,hj,rfl,rfl,a7,U,a0⟩:=hrel;by_cases ab:j<l.length
  ·have a3:=eG ab
   generalize l[j]=x at a3;have af:=HX x (mG a3);have ao:=IC a3;rw[ao]at a0;obtain⟨b,off,rfl,aa⟩:=HC wr U j x a3;obtain⟨q,ae⟩:∃q,F.P[x]?=some q:=⟨_,eG (by omega)⟩
   have ai:=Hd ae;have HQ:Hid (Q[x]?=some q):=Hd (by obtain⟨al,hR⟩:=aw.out;rw[<-hR,gL (by omega)];exact ae)
   obtain⟨q0,q1,-,-,-⟩:=(I wr U).cells;have ak:Hid (∀y,() 215 #[.agg #[g.nt,g.top],.int .i64 x] y (Br y true)):=Hd (fun y=>by have:=eI y g.nt g.top x;rwa [decide_eq_true af]at this);have ah:Hid (∀y,BA y (g.nt+1) Q o->() 157 #[(p.h,0),(q.h,0)] y fun e w'=>e=.returned (.bool (o.getD i 0|||o.getD x 0 != o.getD i 0))/\BA w' (g.nt+1) Q (o.set i (o.getD i 0|||o.getD x 0))/\Aj p.X y w'):=Hd (fun y t=>by
    refine(Hk (t.at_ i p HP) (t.at_ x q HQ) ?_).mono ?_
    ·rw[t.room p (mG HP),t.room q (mG HQ)]
    ·rintro e w' ⟨he,h1,h2⟩
     exact⟨he,t.ER HP h1 h2,h2⟩)
   have ag:Hid (∀y,Aj p.X w y->() 39 #[(F.e.h,0),.int .i64 x] y fun e w'=>e=.returned (.bool (E.testBit x))/\w'=y):=Hd (fun y t=>iS (I y t).e (by rw[(I y t).en];omega));have a9:=Hd (fun h=>aH (E:=E) (i:=i) (x:=x) (l:=l.drop (j+1)) (C:=o) (m:=m) h);have a8:=Hd (fun h=>cW (E:=E) (i:=i) (x:=x) (l:=l.drop (j+1)) (C:=o) (m:=m) h);clear a3 ao ae;generalize (o.getD i 0|||o.getD x 0 != o.getD i 0)=b1 at *;generalize o.set i (o.getD i 0|||o.getD x 0)=Cn at *;generalize an:E.testBit x=b2 at *;cases b2
   ·have T:=a8 rfl
    rw[a0.out]at T;cases T
    clear an a8 a9;cases b1
    all_goals go_wp2_with (first
     | (
      go_at_call 215;refine(ak _).mono ?_;rintro e w1 ⟨rfl,R⟩
      have P:=Hd (U.next (Aj.AK R));have a6:=Hd (a7.later R);have d1:=(I w1 P).Me a5 ai af;obtain⟨-,-,-,d2,-⟩:=(I w1 P).cells;rw[a5]at d2;clear R)
     | (
      go_at_call 157;refine(ah _ a6).mono ?_;rintro e w2 ⟨rfl,a2,a1⟩
      have J:=Hd (P.next a1);have a4:=Hd a2;obtain⟨-,-,d3,-,-⟩:=(I w2 J).cells;clear a2 a1)
     | (go_at_call 39;refine(ag _ J).mono ?_;rintro e w3 ⟨rfl,rfl⟩))
    all_goals go_ret2
    all_goals exact⟨rfl,a4,J⟩
   ·have T:=a9 rfl
    rw[a0.out]at T;have aj:=Hd T.symm;clear an a8 a9 T a0;cases b1
    all_goals go_wp2_with (first
     | (
      go_at_call 215;refine(ak _).mono ?_;rintro e w1 ⟨rfl,R⟩
      have P:=Hd (U.next (Aj.AK R));have a6:=Hd (a7.later R);have d1:=(I w1 P).Me a5 ai af;obtain⟨-,-,-,d2,-⟩:=(I w1 P).cells;rw[a5]at d2;clear R)
     | (
      go_at_call 157;refine(ah _ a6).mono ?_;rintro e w2 ⟨rfl,a2,a1⟩
      have J:=Hd (P.next a1);have a4:=Hd a2;obtain⟨-,-,d3,-,-⟩:=(I w2 J).cells;clear a2 a1)
     | (go_at_call 39;refine(ag _ J).mono ?_;rintro e w3 ⟨rfl,rfl⟩))
    all_goals go_roundw
    all_goals first
     | exact⟨j+1,Cn,m,by omega,by go_num,rfl,a4,J,aj⟩
     | exact⟨j+1,Cn,true,by omega,by go_num,rfl,a4,J,aj⟩
     | (simp[intOf];omega)
  ·obtain rfl:j=l.length:=by omega
   have e:=a0.out;rw[List.drop_length,DD]at e;cases e
   go_wp2_with fail
   go_ret2
   exact⟨rfl,a7,U⟩
end Go.Proofs.YthaacmablcpdfaaGreatDoor
