/- . -/
import Derived.Test.YtendpobbjjaopaaGreatDoorXam
import Derived.ArgAppend
set_option linter.all false
set_option maxRecDepth 100000
set_option maxHeartbeats 16000000
namespace Go.Proofs.YtendpobbjjaopaaGreatDoor
open Go.RowKit
open Value renaming slice→oG,int→oH
open Option renaming some→oM,none→oN
open IntKind renaming i64→oO
open Obj renaming cells→oP
open World renaming cell?→oT
open Go renaming World→oU,Value→oV
variable{B base bytes i s size:Nat}{e k t:TypeId}{nv src v:oV}{news xs:List oV}{w':oU}{T:List TypeId}{A:Option Addr}{P:Program}{o:Oper}{Q:Exit->Act->oU->Prop}{x:oV×List It}{l:List It}
def Cd(w:oU)(base:Nat)(e:TypeId)(size:Nat)(v:oV)(n:Nat)(xs:List oV):Prop:=
 xs.length=n*size/\((v=oG oN 0 0/\n=0)\/∃g off cap i,v=oG (oM ⟨g,off,oN⟩) n cap/\base<=g/\Ah w g e i/\n<=cap/\cap<=maxLen/\off+cap*size<=i.size/\∀j u,xs[j]?=oM u->i[off+j]?=oM u)
def Cd.of{w:oU}{n:Nat}(h:w.ownsRow base e size v n xs):Cd w base e size v n xs:=by
 refine⟨h.1,?_⟩;rcases h.2 with J|⟨g,cap,l,rfl,C,I,o,p,P,t⟩
 ·exact .inl J
 ·refine .inr ⟨g,0,cap,l,rfl,C,I,o,p,nX,fun j u i=>?_⟩
  rw[<-t,List.getElem?_take]at i;split at i
  ·simpa using i
  ·cases i
def Cd.shape{w:oU}{n:Nat}(h:Cd w base e size v n xs):∃A c,v=oG A n c:=by
 rcases h.2 with⟨rfl,rfl⟩|⟨g,off,cap,i,rfl,_⟩
 ·exact⟨_,_,rfl⟩
 ·exact⟨_,_,rfl⟩
def Cd.lt{w:oU}{n:Nat}(h:Cd w base e size v n xs):∀k,v.ownBlock=oM k->k<w.heap.size/\base<=k:=by
 intro k i;rcases h.2 with⟨rfl,_⟩|⟨g,off,cap,o,rfl,j,l,_⟩
 ·cases i
 ·cases i
  exact⟨Ah.lt l,j⟩
def Cd.AA{X:Nat->Prop}{w:oU}{n:Nat}(h:Cd w base e size v n xs)(l:∀g i,Ah w g e i->v.ownBlock=oM g->Ah w' g e i):Cd w' base e size v n xs:=by
 refine⟨h.1,?_⟩;rcases h.2 with p|⟨g,off,cap,i,rfl,j,o,t⟩
 ·exact .inl p
 ·exact .inr ⟨g,off,cap,i,rfl,j,l g i o rfl,t⟩
def Cd.below{w:oU}{n:Nat}(h:Cd w base e size v n xs)(j:Below w w w'):Cd w' base e size v n xs:=
 h.AA (X:=fun _=>True) fun g l i _=>Ah.below i j (Ah.lt i)
def Cd.keeps{w:oU}{n:Nat}(h:Cd w base e size v n xs)(j:AI B T w w')(l:e ∉ T):Cd w' base e size v n xs:=
 h.AA (X:=fun _=>True) fun g o i _=>j.Aj i (.inr l)
def Cd.at_{w:oU}{n:Nat}{c:Nat}(h:Cd w base e size (oG A n c) n xs)(R:0<n):∃g off,A=oM ⟨g,off,oN⟩/\g<w.heap.size/\n<=c/\∀j u,xs[j]?=oM u->oT w ⟨g,off+j,oN⟩=oM u:=by
 rcases h.2 with⟨l,rfl⟩|⟨g,off,cap,C,l,P,i,o,I,J,p⟩
 ·omega
 ·cases l
  exact⟨g,off,rfl,Ah.lt i,o,fun j u t=>(i.cell _).trans (p j u t)⟩
def Cd.tail{w:oU}{n:Nat}{x:oV}{g off c:Nat}(h:Cd w base e 1 (oG (g,off) (n+1) c) (n+1) (x::xs))(R:i=off+1\/(c=1/\i=off)):Cd w base e 1 (oG (g,i) n (c-1)) n xs:=by
 have I:=h.1;refine⟨by simpa using I,?_⟩;rcases h.2 with⟨l,_⟩|⟨T,a0,cap,p,l,t,C,J,U,h3,P⟩
 ·cases l
 ·cases l
  rcases R with rfl|⟨rfl,rfl⟩
  ·refine .inr ⟨g,off+1,c-1,p,rfl,t,C,nX,nX,nX,fun j u o=>?_⟩
   have:=P (j+1) u (by simpa using o);rw[show off+1+j=off+(j+1) by omega];exact this
  ·obtain rfl:n=0:=by omega
   exact .inr ⟨g,i,1-1,p,rfl,t,C,nX,nX,nX,fun j u o=>by have J:=(sG.1 o).1;rw[List.length_cons]at I;omega⟩
theorem U9{w:oU}{g:Nat}{e:TypeId}:∀(C:List oV) (o:Nat) (w:oU) (l:Array oV),Ah w g e l->o+C.length<=l.size->∃p,Ah (w.setCells g o C) g e p/\p.size=l.size/\(∀j u,C[j]?=oM u->p[o+j]?=oM u)/\∀i,i<o->p[i]?=l[i]?
 | [],o,w,l,h,J=>⟨l,h,rfl,fun j u t=>by simp at t,fun i U=>rfl⟩
 | v::r,o,w,l,h,J=>by
  simp only[List.length_cons]at J;obtain⟨p,P,R,T,I⟩:=U9 (w:=w) r (o+1) (w.setCell (g,o) v) _ (h.Ba o v) oC;refine⟨p,P,by simpa using R,fun j u t=>?_,fun i U=>?_⟩
  ·cases j with
   | zero=>rw[I (o+0) nX];simp at t;subst t;rw[Array.getElem?_setIfInBounds];simp;omega
   | succ j=>rw[show o+(j+1)=o+1+j by omega];exact T j u (by simpa using t)
  ·rw[I i nX,Array.getElem?_setIfInBounds,if_neg nX]
theorem Uj{B:Nat}{T:List TypeId}{g:Nat}{e:TypeId}(j:B<=g)(l:e∈T):∀(p:List oV) (o:Nat) (w:oU) (i:Array oV),Ah w g e i->AI B T w (w.setCells g o p)
 | [],o,w,i,h=>AI.refl _ _ _
 | v::r,o,w,i,h=>((AI.refl B T w).EH h j l o v).trans (Uj j l r (o+1) _ _ (h.Ba o v))
theorem Uo{g:Nat}{e:TypeId}:∀(l:List oV) (o:Nat) (w:oU),w.grownBy (w.setCells g o l) (oM g)
 | [],o,w=>World.grownBy.refl w _
 | v::r,o,w=>by
  have h:=Uo (g:=g) (e:=e) r (o+1) (w.setCell (g,o) v);refine⟨h.os,h.tape,h.output,?_,fun k j i=>?_⟩
  ·have:=h.size
   rw[show (w.setCell (g,o) v).heap.size=w.heap.size by simp[World.setCell]]at this;exact this
  exact(h.block k (by simpa [World.setCell] using j) i).trans (Below.heap_setCell _ _ _ _ (by rintro rfl;exact i rfl))
def mI{w:oU}{ty:TypeId}(E:El P t e size bytes){n m N:Nat}
  (U:Cd w base e size v n xs) (J:Be w src m size news) (hm:0<m) (hN:n+m=N) (a5:N<=maxLen) (a7:N*bytes<=140737488355328) (a6:base<=w.heap.size) :
  ∃A c w',(Builtin.append_ #[t,t] ty #[v,src]).run P w=.ok (oG A N c) w'/\Cd w' base e size (oG A N c) N (xs++news)/\AI base [e] w w'/\w.grownBy w' v.ownBlock:=by
 rcases U.2 with⟨rfl,rfl⟩|⟨g,off,cap,aa,rfl,hB,o,h1,h2,h3,h4⟩
 ·have hx:xs=[]:=List.eq_nil_of_length_eq_zero (by simpa using U.1)
  subst hx;obtain⟨A,c,w',a1,a2,a3,a4⟩:=Nx (ty:=ty) E (World.ownsRow_nil w base e size) J hN a5 a7 a6;exact⟨A,c,w',a1,Cd.of a2,a3,a4.1⟩
 ·subst hN
  obtain⟨ht,⟨a9,z,hi,hz,I,af,ag⟩,hp⟩:=E;obtain⟨ho,J⟩:=J;rcases J with⟨rfl,rfl,rfl⟩|⟨ad,c,rfl,p,hc⟩
  ·omega
  ·have a8:=U.1
   have ae:(xs++news).length=(n+m)*size:=by rw[Cb,a8,p,Nat.add_mul]
   by_cases a0:n+m<=cap
   ·have ah:n*size+news.length<=cap*size:=by rw[p,<-Nat.add_mul];exact Nat.mul_le_mul_right _ a0
    have C:=run_append_room_cells (P:=P) w t ty e a9 ht hi g off n cap ad m c news (by rw[I];exact p) hc ho a0 (fun j R=>by rw[o.cell,I,Array.getElem?_eq_getElem nX];rfl) (fun j R=>o.frozen _)
    rw[I]at C;obtain⟨ab,b1,b2,b3,b4⟩:=U9 (w:=w) news (off+n*size) w aa o nX;refine⟨_,_,_,C,⟨ae,.inr ⟨g,off,cap,ab,rfl,hB,b1,a0,h2,nX,fun j u i=>?_⟩⟩,Uj hB oA _ _ _ _ o,Uo (e:=e) _ _ _⟩;by_cases R:j<xs.length
    ·rw[gL R]at i
     rw[b4 _ nX];exact h4 j u i
    ·rw[List.getElem?_append_right nX]at i
     have:=b3 _ u i;rw[show off+n*size+(j-xs.length)=off+j by omega]at this;exact this
   ·obtain⟨v',w',C,r1,l⟩:=run_append_arg_grows (P:=P) w t ty e a9 z size bytes ht hi hz I af ag hp (g,off) n cap xs a8 (fun j u i=>by
     have:((g,off):Addr).add j=(g,off+j):=by unfold Addr.add;split<;>simp_all
     rw[this,o.cell];exact h4 j u i) ad m c news p hc nX a5 a7
    obtain⟨A',c',rfl⟩:=BK r1;exact⟨_,_,w',C,Cd.of (EN r1 a6),(AI.refl base [e] w).grown l (fun k T=>by cases T),⟨l.os,l.tape,l.output,l.size,fun k T _=>l.block k T oA⟩⟩
def aF{w:oU}{a:Act}{K:Act->oU->Prop}(E:El P t e size bytes)(s x:Operand)
  (I:o.op=.call {callee:=.builtin .append,args:=#[s,x],argTypes:=#[t,t]}) {n m N:Nat}   (T:a.eval s=v) (hx:a.eval x=src)
  (J:Cd w base e size v n xs) (U:Be w src m size news) (C:0<m) (j:n+m=N) (i:N<=maxLen) (p:N*bytes<=140737488355328) (l:base<=w.heap.size)
  (h:∀A c w',Cd w' base e size (oG A N c) N (xs++news)->AI base [e] w w'->w.grownBy w' v.ownBlock->K (a.put o.dst (oG A N c)) w'):o.wp P a w K Q:=by
 obtain⟨A,c,w',R,r1,r2,r3⟩:=mI (P:=P) (ty:=o.type) E J U C j i p l;unfold Oper.wp execOp;simp only[I,resolve,invoke,builtin,Sem.run_bind,Sem.run_pure,Result.andThen_ok,List.map_toArray,List.map_cons,List.map_nil,T,hx,R];exact h A c w' r1 r2 r3
def Pm{w:oU}{i:Array Oper}{rest:List Oper}{a:Act}(E:El P t e size bytes)(s x:Operand)(J:o.guard=oN)
  (T:o.op=.call {callee:=.builtin .append,args:=#[s,x],argTypes:=#[t,t]}) {n m N:Nat}   (hs:a.eval s=v) (hx:a.eval x=src)
  (U:Cd w base e size v n xs) (a0:Be w src m size news) (R:0<m) (p:n+m=N) (j:N<=maxLen) (I:N*bytes<=140737488355328) (C:base<=w.heap.size)
  (h:∀A c w',Cd w' base e size (oG A N c) N (xs++news)->AI base [e] w w'->w.grownBy w' v.ownBlock->wpList P i Q rest (a.put o.dst (oG A N c)) w'):wpList P i Q (o::rest) a w:=
 wpList_plain J fun _ l=>aF E s x T hs hx U a0 R p j I C fun A c w' r1 r2 r3=>l _ _ (h A c w' r1 r2 r3)
section
open Go.Maps (IsMap)
theorem Gz.Fit.PU{g:Gz}(h:g.Fit)(x:It):g.next x<=g.top:=by
 have p:=h.start.2;have key:∀(l:List Nat) (d:Nat),(∀y∈l,y<=g.top)->l.getD d 0<=g.top:=fun l d o=>by
  rw[dG];cases j:l[d]? with
  | none=>exact AX _
  | some y=>exact o y (mG j)
 unfold Gz.next Gz.right Gz.Br;split
 ·exact key _ _ (fun y i=>by simp at i;omega)
 ·refine key _ _ (fun y i=>?_)
  rw[dG]at i;cases j:g.R[x.1]? with
  | none=>rw[j]at i;cases i
  | some r=>rw[j]at i;exact(h.right r (mG j) y i).2
def Am.map{X:Nat->Prop}{w:oU}{R:oV->Option (DataW Unit×List MemPlace)}{mb n:Nat}{D:DataW Unit}(l:Am X w w')(h:w.ownsMap P k R mb n D)(o:¬X mb):w'.ownsMap P k R mb n D:=by obtain⟨j,clock,i,rest⟩:=h;exact⟨j,clock,(l.block mb (aG.1 i).1 o).trans i,rest⟩
def Dl{w:oU}{R:oV->Option (DataW Unit×List MemPlace)}{mb n:Nat}{D:DataW Unit}(h:w.ownsMap P k R mb n D){b:Nat}{cs:Array oV}(i:Ah w b t cs):b≠mb:=by rintro rfl;obtain⟨l,clock,j,_⟩:=h;unfold Ah at i;rw[j]at i;cases i
def Hm{w:oU}{R:oV->Option (DataW Unit×List MemPlace)}{mb n:Nat}{D:DataW Unit}(h:w.ownsMap P k R mb n D){m:Nat}(l:w.ownsRow B e size v m xs):∀b,v.ownBlock=oM b->b≠mb:=by
 intro b i;rcases l.2 with⟨rfl,_⟩|⟨g,cap,o,rfl,_,j,_⟩
 ·cases i
 ·cases i
  exact Dl h j
def AI.map{w:oU}{R:oV->Option (DataW Unit×List MemPlace)}{mb n:Nat}{D:DataW Unit}(o:AI B T w w')(h:w.ownsMap P k R mb n D):w'.ownsMap P k R mb n D:=by obtain⟨l,clock,i,rest⟩:=h;exact⟨l,clock,(o.block mb (aG.1 i).1 (.inr fun p t m j=>by rw[i]at j;cases j)).trans i,rest⟩
def B8.fresh(w:oU){n:Nat}(p:B<=w.heap.size)(I:n<=100000):B8 (w.alloc (oP (Array.replicate n (oG oN 0 0)) 116)) B w.heap.size n n (List.replicate n (oG oN 0 0,[])):=by
 refine⟨⟨oA,.inr ⟨w.heap.size,n,_,rfl,p,Ah.new w _ _,Ay _,oB,oA,oA⟩⟩,fun k x l=>?_,fun i j x y l J C k t=>?_⟩
 ·obtain⟨o,rfl⟩:=sG.1 l
  simp;exact⟨rfl,.inl ⟨rfl,rfl⟩⟩
 ·obtain⟨o,rfl⟩:=sG.1 l
  simp[Value.ownBlock]at t
def B8.E0{w W:oU}{g n c:Nat}{R:List (oV×List It)}(h:B8 w B g n c R)(t:R[s]?=oM x)
  (J:Am (fun k=>x.1.ownBlock=oM k) w W) (r1:W.ownsRow B 220 2 nv l.length (l.flatMap Bg)) (a7:nv.ownBlock=x.1.ownBlock):B8 (W.setCell (g,s) nv) B g n c (R.set s (nv,l)):=by
 obtain⟨U,aa⟩:=sG.1 t;have a9:=h.len;obtain⟨a6,a3⟩:=h.Aj;have a4:x.1.ownBlock≠oM g:=Du (h.own s x t) a3 nY;have a1:Ah W g 116 a6:=J.Aj a3 a4;have a2:Am (·=g) W (W.setCell (g,s) nv):=Am.set (X:=(·=g)) (Am.refl _ W) (p:=⟨g,s,oN⟩) (.inr rfl) _;have a8:=J.own h.row (fun k p e=>a4 (by cases p;exact e));refine⟨?_,?_,?_⟩
 ·have:=Ge a8 s nX nv
  rw[List.map_set];exact this
 ·intro k y o
  by_cases p:k=s
  ·subst p
   rw[tG U]at o;cases o
   exact a2.own r1 (FB r1 a1 nY)
  ·rw[uG (fun e=>p e.symm)]at o
   have a5:=J.own (h.own k y o) (fun b j he=>h.apart s k x y t o (fun e=>p e.symm) b he j);exact a2.own a5 (FB a5 a1 nY)
 ·intro i a0 a b ha j T k C I
  have key:∀(m:Nat) (y:oV×List It),R[m]?=oM y->m≠s->∀k,nv.ownBlock=oM k->y.1.ownBlock≠oM k:=fun m y o hm k h1 h2=>by rw[a7]at h1;exact h.apart s m x y t o (fun e=>hm e.symm) k h1 h2
  by_cases P:i=s
  ·subst P
   rw[tG U]at ha;cases ha
   rw[uG T]at j;exact key a0 b j (fun e=>T e.symm) k C I
  ·rw[uG (fun e=>P e.symm)]at ha
   by_cases hj:a0=s
   ·subst hj
    rw[tG U]at j;cases j
    exact key i a ha P k I C
   ·rw[uG (fun e=>hj e.symm)]at j
    exact h.apart i a0 a b ha j T k C I
structure C4(w wr:oU)(bb pb rb mb gr c N n m:Nat)(R:List (oV×List It))(M:List Nat)(D:DataW Unit):Prop where
 below:Below w w wr
 p:Ah wr pb 199 #[(bb,0)]
 r:Ah wr rb 201 #[oG (gr,0) N c]
 AM:B8 wr w.heap.size gr N c R
 map:JA wr mb n D
 met:Im D M
 short:E6 m (R.map (·.2))
 lo:w.heap.size<=mb
def C4.later{w wr w2:oU}{j o rb mb l c N n m:Nat}{R:List (oV×List It)}{M:List Nat}{D:DataW Unit}(h:C4 w wr j o rb mb l c N n m R M D)(i:Below wr wr w2):C4 w w2 j o rb mb l c N n m R M D:=
 ⟨h.below.trans (i.mono h.below.size),h.p.below i h.p.lt,h.r.below i h.r.lt,h.AM.later i,(Am.AJ (X:=fun _=>False) i).map h.map id,h.met,h.short,h.lo⟩
def C4.more{w wr:oU}{p rb mb j c N n m o:Nat}{R:List (oV×List It)}{M:List Nat}{D:DataW Unit}(h:C4 w wr i p rb mb j c N n m R M D)(C:m<=o):C4 w wr i p rb mb j c N n o R M D:=
 ⟨h.below,h.p,h.r,h.AM,h.map,h.met,fun l t=>AW (h.short l t) C,h.lo⟩
def C4.gH{w wr w2:oU}{I U rb mb l c N n m T:Nat}{R p:List (oV×List It)}{M:List Nat}{D:DataW Unit}(h:C4 w wr I U rb mb l c N n m R M D)(hf:B8 w2 w.heap.size l N c p)(C:Am (IX l R) wr w2)(hs:E6 T (p.map (·.2))):C4 w w2 I U rb mb l c N n T p M D:=by
 obtain⟨a0,P⟩:=h.AM.Aj;have a1:=B6 h.AM.row l rfl;have j:∀{b:Nat} {t:TypeId} {J:Array oV},Ah wr b t J->t≠220->t≠116->Ah w2 b t J:=fun j h1 h3=>C.Aj j (fun e=>by
  rcases e with e|⟨i,x,o,e⟩
  ·exact Ah.Bb j P h3 e
  ·exact Du (h.AM.own i x o) j (Ne.symm h1) e)
 refine⟨h.below.trans (C.below h.below.size (fun k hk e=>?_)),j h.p nY nY,j h.r nY nY,hf,C.map h.map (fun e=>?_),h.met,hs,h.lo⟩
 ·rcases e with e|⟨i,x,o,e⟩
  ·omega
  ·have:=(B6 (h.AM.own i x o) k e).2;omega
 ·rcases e with e|⟨i,x,o,e⟩
  ·exact Dl h.map P e.symm
  ·exact Hm h.map (h.AM.own i x o) _ e rfl
def C4.mapped{w wr w2:oU}{j p rb mb l c N n m o:Nat}{R:List (oV×List It)}{M:List Nat}{D:DataW Unit}(h:C4 w wr j p rb mb l c N n m R M D)(J:JA w2 mb o (D.put (Cq s) (.lit (.bool true))))(I:wr.grownBy w2 (oM mb)):C4 w w2 j p rb mb l c N o m R (s::M) (D.put (Cq s) (.lit (.bool true))):=by have i:Am (·=mb) wr w2:=Am.of_map I;obtain⟨T,C⟩:=h.AM.Aj;exact⟨h.below.trans (i.below h.below.size (fun k U e=>by have:=h.lo;omega)),i.Aj h.p (Dl h.map h.p),i.Aj h.r (Dl h.map h.r),h.AM.AA i (Dl h.map C) (fun k x P b t=>Hm h.map (h.AM.own k x P) b t),J,h.met.next h.map.isMap s,h.short,h.lo⟩
def C4.Kb{w wr W:oU}{C P rb mb c N n m:Nat}{R l:List (oV×List It)}{M:List Nat}{D:DataW Unit}(h:C4 w wr C P rb mb i c N n m R M D)(hx:R[s]?=oM x)(hc:Am (fun k=>x.1.ownBlock=oM k) wr W)(hf:B8 (W.setCell (i,s) nv) w.heap.size i N c l)(hs:E6 m (l.map (·.2))):C4 w (W.setCell (i,s) nv) C P rb mb i c N n m l M D:=by
 obtain⟨a0,J⟩:=h.AM.Aj;have p:=h.AM.own s x hx;have a1:=B6 h.AM.row i rfl;have o:Am (fun k=>x.1.ownBlock=oM k\/k=i) wr (W.setCell (i,s) nv):=(hc.mono fun a2 hi=>.inl hi).set (p:=⟨i,s,oN⟩) (.inr (.inr rfl)) _;have j:∀{b:Nat} {t:TypeId} {I:Array oV},Ah wr b t I->t≠220->t≠116->Ah (W.setCell (i,s) nv) b t I:=fun j T U=>o.Aj j (fun e=>by
  rcases e with e|e
  ·exact Du p j (Ne.symm T) e
  ·exact Ah.Bb j J U e)
 refine⟨h.below.trans (o.below h.below.size (fun k hk e=>?_)),j h.p nY nY,j h.r nY nY,hf,o.map h.map (fun e=>?_),h.met,hs,h.lo⟩
 ·rcases e with e|e
  ·have:=(B6 p k e).2;omega
  ·omega
 ·rcases e with e|e
  ·exact Hm h.map p _ e rfl
  ·exact Dl h.map J e.symm
def C4.ordered{w wr W:oU}{o C rb mb c N n m:Nat}{R:List (oV×List It)}{M:List Nat}{D:DataW Unit}(h:C4 w wr o C rb mb i c N n m R M D){j:oV}{T:List It}(t:R[s]?=oM (j,T))(p:Am (fun k=>j.ownBlock=oM k) wr W)(P:W.ownsRow w 220 2 nv l.length (l.flatMap Bg))(I:nv.ownBlock=j.ownBlock)(J:E6 m ((R.map (·.2)).set s l)):C4 w (W.setCell (i,s) nv) o C rb mb i c N n m (R.set s (nv,l)) M D:=
 h.Kb t p (h.AM.E0 t p P I) (by rw[List.map_set];exact J)
end
variable{R:List (oV×List It)}
def NU{w:oU}{n g c:Nat}(h:w.ownsRow B e s (oG (g,0) n c) n xs):n<=c/\c<=9223372036854775807:=by
 rcases Bj h with⟨i,_⟩|⟨b,c2,i,_,_,j,l,_⟩
 ·cases i
 ·cases i
  unfold maxLen at l;exact⟨j,nX⟩
def L9{i j:Type}(f:j->i->j)(l:List i)(b:j)(k:Nat)(x:i)(o:l[k]?=oM x):(l.take (k+1)).foldl f b=f ((l.take k).foldl f b) x:=by rw[List.take_add_one,o,List.foldl_append];rfl
def XO{m:Nat}(h:E6 m (R.map (·.2)))(l:m<=B):∀(j:Nat) (x:oV×List It),R[j]?=oM x->x.2.length<=B:=fun j x i=>by have:=h x.2 (List.mem_map.2 ⟨x,mG i,rfl⟩);omega
def T9(g:Gz)(bg:List (List It))(R:List (List It))(M:List Nat)(x:It)(s:Nat)(i:g.next x=s)(h:s∈M\/g.BW s=false):g.EG bg (R,M) x=(Dz g R x,M):=by unfold Gz.EG;simp only[i];rw[if_pos h]
def lY(g:Gz)(bg:List (List It))(R:List (List It))(M:List Nat)(x:It)(s:Nat)(l:g.next x=s)(i:s ∉ M)(j:g.BW s=true):g.EG bg (R,M) x=((bg.getD s []).foldl (Dz g) (Dz g R x),s::M):=by unfold Gz.EG;simp only[l];rw[if_neg (by simp[i,j])]
theorem PM{P:It->Prop}(g:Gz){R:List (List It)}(h:∀r∈R,∀y∈r,P y)(x:It)(t:P (x.1,x.2+1)):∀r∈Dz g R x,∀y∈r,P y:=by
 unfold Dz;split
 ·exact h
 ·intro r p
  obtain⟨i,j⟩:=List.mem_iff_getElem?.1 p;unfold I9 at j;rw[List.getElem?_modify]at j;cases o:R[i]? with
  | none=>rw[o]at j;cases j
  | some I=>
   rw[o]at j;have h0:=h I (mG o);simp only[Option.map_eq_map,Option.map_some,Option.some.injEq]at j;subst j;split
   ·intro y C
    rcases mA.1 C with l|l
    ·exact h0 y l
    ·rw[mS.1 l];exact t
   ·exact h0
theorem RR{P:It->Prop}(g:Gz):∀(l:List It) {R:List (List It)} (_:∀r∈R,∀y∈r,P y) (_:∀x∈l,P (x.1,x.2+1)),∀r∈l.foldl (Dz g) R,∀y∈r,P y
 | [],R,h,_=>h
 | x::l,R,h,i=>RR g l (PM g h x (i x oA)) (fun y j=>i y (by simp[j]))
theorem UO{P:It->Prop}(g:Gz)(bg:List (List It))(o:∀r∈bg,∀x∈r,P (x.1,x.2+1)):∀(l:List It) (p:List (List It)×List Nat) (_:∀r∈p.1,∀y∈r,P y) (_:∀x∈l,P (x.1,x.2+1)),∀r∈(l.foldl (g.EG bg) p).1,∀y∈r,P y
 | [],p,h,_=>h
 | x::l,p,h,i=>by
  refine UO g bg o l _ ?_ (fun y j=>i y (by simp[j]));unfold Gz.EG;simp only;split
  ·exact PM g h x (i x oA)
  ·refine RR g _ (PM g h x (i x oA)) ?_
   rw[dG];cases t:bg[g.next x]? with
   | none=>intro y j;simp at j
   | some r=>exact o r (mG t)
def Wv{o:Type}(f:o->o)(l:List o)(j:Nat)(x:o)(t:l[j]?=oM x):((l.take j).map f++l.drop j).set j (f x)=(l.take (j+1)).map f++l.drop (j+1):=by
 obtain⟨P,rfl⟩:=sG.1 t;apply List.ext_getElem?;intro i;have I:((l.take j).map f).length=j:=by simp;omega
 have J:((l.take (j+1)).map f).length=j+1:=by simp;omega
 by_cases p:i=j
 ·subst p
  rw[tG oC,gL nX,pG,List.getElem?_take_of_lt nX,t];rfl
 ·rw[uG (fun e=>p e.symm)]
  by_cases C:i<j
  ·rw[gL nX,gL nX,pG,pG,List.getElem?_take_of_lt C,List.getElem?_take_of_lt nX]
  ·rw[List.getElem?_append_right nX,List.getElem?_append_right nX,I,J,List.getElem?_drop,List.getElem?_drop,show j+(i-j)=i by omega,show j+1+(i-(j+1))=i by omega]
structure JH(w:oU)(bb:Nat)(g:Gz)(bg:List (List It)):Prop where
 F5:∃B gr0 n0 c0 R0,oT w (bb,4)=oM (oG (oM ⟨gr0,0,oN⟩) n0 c0)/\B8 w B gr0 n0 c0 R0/\R0.map (·.2)=bg/\n0=g.top+1
 short:∀l∈bg,l.length<=300/\∀x∈l,x.1<=g.R.length/\x.2<=9000
variable{w:oU}{g:Gz}{bg:List (List It)}
def JH.later(h:JH w i g bg)(l:Below w w w'):JH w' i g bg:=by obtain⟨⟨B,t,R,p,o,j,C,I,J⟩,P⟩:=h;exact⟨⟨B,t,R,p,o,(l.cell (p:=⟨i,4,oN⟩) (World.block_lt_of_cell? w _ j)).trans j,C.later l,I,J⟩,P⟩
def JH.at_{C:Nat}(h:JH w C g bg)(hs:s<=g.top):∃o j i l,oT w (C,4)=oM (oG (oM ⟨o,0,oN⟩) (g.top+1) j)/\oT w ⟨o,s,oN⟩=oM (oG i (bg.getD s []).length l)/\CQ w (oG i (bg.getD s []).length l) (bg.getD s [])/\g.top+1<=j:=by
 obtain⟨⟨B,o,n0,j,U,h1,p,I,rfl⟩,h5⟩:=h;have a0:=p.len;obtain⟨x,t⟩:∃x,U[s]?=oM x:=⟨_,eG nX⟩
 have J:bg.getD s []=x.2:=by rw[<-I,dG,pG,t];rfl
 have R:=p.own s x t;obtain⟨i,l,T⟩:=BK R;have P:=Bh p.row s nX;rw[pG,t]at P;have hl:x.2.length<=300:=(h5 x.2 (by rw[<-I];exact List.mem_map.2 ⟨x,mG t,rfl⟩)).1;refine⟨o,j,i,l,h1,?_,?_,(NU p.row).1⟩
 ·rw[P,J];simp only[Option.map_some];rw[T]
 ·rw[J,<-T];exact CQ.own R nX
def CQ.at_{n c:Nat}(h:CQ w (oG A n c) l){k:Nat}{x:It}(o:l[k]?=oM x):∃b off,A=oM ⟨b,off,oN⟩/\b<w.heap.size/\oT w ⟨b,off+k*2,oN⟩=oM (oH oO x.1)/\oT w ⟨b,off+k*2+1,oN⟩=oM (oH oO x.2):=by
 obtain⟨⟨p,t,j,i⟩,-,-⟩:=h;cases j
 exact i k x o
def C4.move{wr:oU}{j o rb mb l c N n m:Nat}{M:List Nat}{D:DataW Unit}(h:C4 w wr j o rb mb l c N n m R M D)(C:BG w j v g)(U:g.top<N){x:It}(T:x.1<=g.R.length)(hd:x.2<=9000)(P:m<=100000) :
  () 178 #[.agg #[x.1,x.2],(o,0),(rb,0)] wr fun e w'=>e=.returned (.tuple #[])/\∃i,C4 w w' j o rb mb l c N n (m+1) i M D/\i.map (·.2)=Dz g (R.map (·.2)) x/\Am (IX l R) wr w':=by
 refine(ZR (C.later h.below) h.p h.r h.AM h.below.size T (d:=x.2) nX (by have:=C.gn.fit.PU (x.1,x.2);omega) (XO h.short P)).mono ?_;rintro e w' ⟨J,i,I,p,t⟩;exact⟨J,i,h.gH I t (by rw[p];exact h.short.move g _),p,t⟩
def WS{J:Nat}{kv:oV}(T:BG w J v g)(bp:JH w J g bg)(hk:CQ w kv l)(hl:l.length<=300)(bt:∀x∈l,x.1<=g.R.length/\x.2<=9000) :
  () 128 #[(J,0),kv] w fun e w'=>∃i c R,e=.returned (oG (oM ⟨i,0,oN⟩) (g.top+1) c)/\B8 w' w.heap.size i (g.top+1) c R/\R.map (·.2)=g.G1 bg l/\Below w w w':=by
 have ak:=T.gn.fit;have dc:=ak.nn;have dd:=ak.nt;obtain⟨N,hN⟩:∃N,N=g.top+1:=⟨_,rfl⟩
 have dj:N<=1000:=by unfold Gz.top at hN;omega
 have dv:g.top<=1000:=by omega
 have d8:IntKind.i64.wrap ((g.top:Int)+1)=(g.top:Int)+1:=by rw[IntKind.wrap_i64];omega
 have da:=fun y=>Js (P:=Tryz.prog) (t:=201) (e:=116) (z:=oG oN 0 0) (bytes:=24) Tryz.underlying201 nZ rfl (l:=((g.top:Nat):Int)+1) (n:=N) nX nX nX y
 have db:∀y:oU,(Instr.makeMap 247 oN).run Tryz.prog y=.ok (.map (oM y.heap.size)) (y.alloc (.map #[] 0)):=fun y=>by kernel_rfl
 have HT:=Hd (fun y (I:Below w w y)=>LJ (T.gn.later I));have cg:=Hd (fun y (I:Below w w y) (x:It) (o:x.1<=g.R.length) (hd:x.2<=9000)=>N4 (T.later I) o (d:=x.2) nX);have bj:=Hd (fun y (I:Below w w y) (s:Nat)=>NA (T.gn.later I) s);have bc:=Hd T;have ag:=Hd bp;have bh:=Hd bt;have bf:=Hd ak;obtain⟨AT,cT,AN,cN,AR,cR,rfl,hc,dn⟩:=T.gn.open_;have aq:Hid (∀y,Below w w y->(oT y (J,0)=oM (oG AT g.nt cT)/\oT y (J,1)=oM (oG AN g.nn cN)/\oT y (J,2)=oM (oG AR g.R.length cR)/\oT y (J,3)=oM (oH oO g.s))):=Hd (fun y I=>by have h:=T.later I;exact⟨h.cell 0 nX,h.cell 1 nX,h.cell 2 nX,h.cell 3 nX⟩)
 obtain⟨Ak,ck,rfl⟩:∃A c,kv=oG A l.length c:=by obtain⟨⟨A,c,hv,_⟩,_,_⟩:=hk;exact⟨A,c,hv⟩
 have HK:=Hd hk;have af:=Hd (AG w (oP #[(J,0)] 199));obtain⟨y0,y1,y2,y3⟩:=aq _ af;have HP:=Hd (Ah.new w 199 #[(J,0)]);have d5:J<w.heap.size:=World.block_lt_of_cell? w _ (T.cell 0 nX);have cu:Hid (g.G1 bg l=((l.foldl (g.EG bg) (List.replicate N [],[])).1).map DF):=Hd (by unfold Gz.G1;rw[hN]);clear T bp bt hk hc ak;rw[<-hN];rw[show g.G1 bg l=_ from cu.out];have HN:=Hd hN;clear hN dc dd;generalize bu:l.length=ll at *;have bi:=Hd bu;clear bu;go_enter Tryz.func128,Tryz.ntmps128
 go_wp2_with (first
  | (
    go_at_call 129;refine(HT _ af).mono ?_;rintro e w2 ⟨rfl,aa⟩
    have bb:=Hd (af.trans (aa.mono af.size));have cl:=Hd (Ah.below HP aa HP.lt);clear aa))
 have cp:Hid (C4 w (((w2.alloc (oP (Array.replicate N (oG oN 0 0)) 116)).alloc (oP #[oG (w2,0) N N] 201)).alloc (.map #[] 0)) J w.heap.size (w2.heap.size+1) (w2.heap.size+1+1) w2.heap.size N N 0 0 (List.replicate N (oG oN 0 0,[])) [] (.map [])):=Hd (by
  have hs:=bb.size;refine⟨((bb.alloc hs _).alloc oC _).alloc oC _,((cl.alloc _).alloc _).alloc _,(Ah.newAt oA).alloc _,(((B8.fresh w2 (B:=w.heap.size) hs nX).later (DM _ _)).later (DM _ _)),?_,Im.start,?_,nX⟩
  ·have:=World.ownsMap_made (H:=Unit) ((w2.alloc (oP (Array.replicate N (oG oN 0 0)) 116)).alloc (oP #[oG (w2,0) N N] 201)) Tryz.prog 3 (plainElem Tryz.prog 4)
   simpa using this
  ·intro r hr
   simp at hr;simp[hr])
 generalize d4:((w2.alloc (oP (Array.replicate N (oG oN 0 0)) 116)).alloc (oP #[oG (w2,0) N N] 201)).alloc (.map #[] 0)=W0 at *;generalize d7:w2.heap.size=i at *;clear d4 d7 y0 y1 y2 y3 da db d8 HT;have br:g.top<N:=by rw[HN.out];omega
 have ds:=HK.short;go_loopw [25] (fun ii wr=>∃(k n:Nat) (R:List (oV×List It)) (M:List Nat) (D:DataW Unit),k<=ll/\ii=oH oO k/\n<=k/\Hid (C4 w wr J w.heap.size (i+1) (i+1+1) i N N n (301*k) R M D)/\Hid ((R.map (·.2),M)=(l.take k).foldl (g.EG bg) (List.replicate N [],[]))) (fun ii _=>ll-(intOf ii).toNat)
 case atStart=>exact⟨0,0,_,[],_,AX _,rfl,Ay _,cp,Hd oA⟩
 case round=>
  rename oU=>w9
  obtain⟨k,n,R,M,D,hk,rfl,hn,HS,HE⟩:=hrel;by_cases d9:k<ll
  ·obtain⟨⟨xr,xd⟩,o⟩:∃x,l[k]?=oM x:=⟨_,eG (by rw[bi.out];exact d9)⟩
   have ae:=bh _ (mG o);obtain⟨b,off,d3,hb,c0,c1⟩:=(HK.later HS.below).at_ o;subst d3;simp only at ae c0 c1;have a5:=Hd (L9 (g.EG bg) l (List.replicate N [],[]) k (xr,xd) o);rw[<-HE.out]at a5;have cq:=Hd (HS.later (AG w9 (oP #[xr,xd] 220)));have b1:=Hd (Ah.new w9 220 #[xr,xd]);have ar:=Hd (cq.move bc br (x:=(xr,xd)) ae.1 ae.2 nX);have au:Hid (¬IX i R w9.heap.size):=Hd (by
     rintro(e|⟨c7,x,o,e⟩)
     ·have:=(B6 HS.AM.row i rfl).1;omega
     ·have:=(B6 (HS.AM.own c7 x o) _ e).1;omega)
   obtain⟨s,hs⟩:∃s,g.next (xr,xd)=s:=⟨_,rfl⟩
   have dg:s<=g.top:=by rw[<-hs];exact bf.PU _
   have an:s<=100000:=by omega
   have az:=Hd hs;have ai:=Hd (fun y (I:Below w w y)=>cg y I (xr,xd) ae.1 ae.2);simp only[hs]at ai;clear o hs;by_cases hm:s∈M
   · have a8:=Hd (a5.trans (T9 g bg _ M _ s az (.inl hm)))
     have HM:=Hd hm;clear hm;go_wp2_with (first
      | (
        go_at_call 178;refine ar.mono ?_;rintro e w3 ⟨rfl,R3,h3,a4,a3⟩
        have a2:=Hd (a3.Aj b1 au);have p3:=Ah.cell h3.p 0;have x0:=Ah.cell a2 0;have x1:=Ah.cell a2 1;simp at p3 x0 x1;have a1:=Hd h3;have a9:=Hd a4;clear h3 a4 a3)
      | (
        go_at_call 175;refine(ai _ a1.below).mono ?_;rintro e w4 ⟨rfl,a0⟩
        have C:=Hd (a1.later a0);have a6:=LM C.map C.met an;rw[decide_eq_true HM.out]at a6;clear a0))
     go_roundw
     case rel=>exact⟨k+1,n,R3,M,D,nX,oD,nX,Hd (C.more nX),Hd (by rw[a8.out,a9.out])⟩
     case measure=>simp[intOf];omega
   · have HM:=Hd hm
     cases a7:g.BW s with
     | false=>
      have av:=Hd a7;have a8:=Hd (a5.trans (T9 g bg _ M _ s az (.inr a7)));clear hm a7;go_wp2_with (first
      | (
        go_at_call 178;refine ar.mono ?_;rintro e w3 ⟨rfl,R3,h3,a4,a3⟩
        have a2:=Hd (a3.Aj b1 au);have p3:=Ah.cell h3.p 0;have x0:=Ah.cell a2 0;have x1:=Ah.cell a2 1;simp at p3 x0 x1;have a1:=Hd h3;have a9:=Hd a4;clear h3 a4 a3)
      | (
        go_at_call 175;refine(ai _ a1.below).mono ?_;rintro e w4 ⟨rfl,a0⟩
        have C:=Hd (a1.later a0);have a6:=LM C.map C.met an;rw[decide_eq_false HM.out]at a6;have p4:=Ah.cell C.p 0;simp at p4;obtain⟨y0,y1,y2,y3⟩:=aq _ C.below;clear a0)
      | (
        go_at_call 168;refine(bj _ C.below s).mono ?_;rintro e w5 ⟨rfl,ab⟩
        rw[av.out];have p:=Hd (C.later ab);clear ab))
      go_roundw
      case rel=>exact⟨k+1,n,R3,M,D,nX,oD,nX,Hd (p.more nX),Hd (by rw[a8.out,a9.out])⟩
      case measure=>simp[intOf];omega
     | true=>
      have av:=Hd a7;have a8:=Hd (a5.trans (lY g bg _ M _ s az hm a7));clear hm a7;go_wp2_with (first
      | (
        go_at_call 178;refine ar.mono ?_;rintro e w3 ⟨rfl,R3,h3,a4,a3⟩
        have a2:=Hd (a3.Aj b1 au);have p3:=Ah.cell h3.p 0;have x0:=Ah.cell a2 0;have x1:=Ah.cell a2 1;simp at p3 x0 x1;have a1:=Hd h3;have a9:=Hd a4;clear h3 a4 a3)
      | (
        go_at_call 175;refine(ai _ a1.below).mono ?_;rintro e w4 ⟨rfl,a0⟩
        have C:=Hd (a1.later a0);have a6:=LM C.map C.met an;rw[decide_eq_false HM.out]at a6;have p4:=Ah.cell C.p 0;simp at p4;obtain⟨y0,y1,y2,y3⟩:=aq _ C.below;clear a0)
      | (
        go_at_call 168;refine(bj _ C.below s).mono ?_;rintro e w5 ⟨rfl,ab⟩
        rw[av.out];have p:=Hd (C.later ab);clear ab;obtain⟨w6,de,bv,bq⟩:=Ov p.map nX an;have aj:=Hd (p.mapped bv bq);have p6:=Ah.cell aj.p 0;simp at p6;obtain⟨cz,di,Ab,cb,b4,b5,b6,b7⟩:=ag.at_ dg;have b4:=(aj.below.cell (p:=⟨J,4,oN⟩) d5).trans b4;have b5:=(aj.below.cell (p:=⟨cz,s,oN⟩) (World.block_lt_of_cell? w _ b5)).trans b5;have cm:=Hd b6;have dm:(bg.getD s []).length<=300:=by
          rw[dG];cases hq:bg[s]? with
          | none=>simp
          | some r=>exact(ag.short r (mG hq)).1
        have ca:Hid (∀x∈bg.getD s [],x.1<=g.R.length/\x.2<=9000):=Hd (by
          rw[dG];cases hq:bg[s]? with
          | none=>simp
          | some r=>exact(ag.short r (mG hq)).2)
        have du:(s:Int)<((g.top+1:Nat):Int):=by omega
        generalize df:bg.getD s []=rr at *;generalize bx:rr.length=rl at *;have bk:=Hd bx;clear bv bq b6 df bx))
      go_loopw [57] (fun jj wr=>∃(j:Nat) (R4:List (oV×List It)),j<=rl/\jj=oH oO j/\Hid (C4 w wr J w.heap.size (i+1) (i+1+1) i N N (n+1) (301*k+1+j) R4 (s::M) (D.put (Cq s) (.lit (.bool true))))/\Hid (R4.map (·.2)=(rr.take j).foldl (Dz g) (R3.map (·.2)))) (fun jj _=>rl-(intOf jj).toNat)
      case atStart=>exact⟨0,R3,AX _,rfl,aj,Hd rfl⟩
      case round=>
       obtain⟨j,R4,hj,rfl,ay,be⟩:=hrel;rename oU=>U
       by_cases b8:j<rl
       · obtain⟨⟨yr,yd⟩,I⟩:∃x,rr[j]?=oM x:=⟨_,eG (by rw[bk.out];exact b8)⟩
         have ba:=ca _ (mG I);obtain⟨b2,dw,d2,aa,d0,d1⟩:=(cm.later ay.below).at_ I;subst d2;simp only at ba d0 d1;have cr:=Hd (ay.later (AG U (oP #[yr,yd] 220)));have cf:=Hd (cr.move bc br (x:=(yr,yd)) ba.1 ba.2 nX);have ah:=Hd (L9 (Dz g) rr (R3.map (·.2)) j (yr,yd) I);rw[<-be.out]at ah;clear I b4 b5 p6 x0 x1 p3 p4 y0 y1 y2 y3 a6 de;go_wp2_with (
           go_at_call 178;refine cf.mono ?_;rintro e dx ⟨rfl,R5,h5,bw,d6⟩
           have ct:=Hd h5;have cn:=Hd bw;clear h5 bw d6)
         go_roundw
         case rel=>exact⟨j+1,R5,nX,oD,ct,Hd (by rw[ah.out,cn.out])⟩
         case measure=>simp[intOf];omega
       · obtain rfl:j=rl:=by omega
         have ah:Hid (R4.map (·.2)=rr.foldl (Dz g) (R3.map (·.2))):=Hd (by have:=be.out;rw[Da (by rw[bk.out];omega)]at this;exact this);go_wp2_with fail
         go_roundw
         case rel=>exact⟨k+1,n+1,R4,s::M,_,nX,oD,nX,Hd (ay.more nX),Hd (by rw[a8.out,ah.out,a9.out])⟩
         case measure=>simp[intOf];omega
  ·obtain rfl:k=ll:=by omega
   have a5:Hid ((R.map (·.2),M)=l.foldl (g.EG bg) (List.replicate N [],[])):=Hd (by have:=HE.out;rw[Da (by rw[bi.out];omega)]at this;exact this);obtain⟨P,al⟩:∃P,R.map (·.2)=P:=⟨_,rfl⟩
   have bl:Hid (P=(l.foldl (g.EG bg) (List.replicate N [],[])).1):=Hd (by rw[<-a5.out,<-al]);have c9:Hid (∀r∈P,∀y∈r,y.1<=100000/\y.2<=100000):=Hd (by
     have dt:=bf.nr;rw[bl.out];refine UO (P:=fun y=>y.1<=100000/\y.2<=100000) g bg (fun r hr x o=>?_) l _ (fun r hr y I=>?_) (fun x o=>?_)
     ·have:=(ag.short r hr).2 x o;simp only;omega
     ·simp at hr;rw[hr.2]at I;cases I
     ·have:=bh x o;simp only;omega)
   have bz:P.length=N:=by rw[<-al,lM,HS.AM.len]
   have ax:=Hd bz;have cv:Hid (R.map (·.2)=(P.take 0).map DF++P.drop 0):=Hd (by simpa using al);have r0:=Ah.cell HS.r 0;simp at r0;clear al bz;go_wp2_with fail
   go_loopw [68] (fun jj wr=>∃(j:Nat) (R5:List (oV×List It)),j<=N/\jj=oH oO j/\Hid (C4 w wr J w.heap.size (i+1) (i+1+1) i N N n (301*k) R5 M D)/\Hid (R5.map (·.2)=(P.take j).map DF++P.drop j)) (fun jj _=>N-(intOf jj).toNat)
   case atStart=>exact⟨0,R,AX _,rfl,HS,cv⟩
   case round=>
     obtain⟨j,R5,hj,rfl,p,ao⟩:=hrel;rename oU=>U
     have r7:=Ah.cell p.r 0;simp at r7;by_cases b8:j<N
     ·obtain⟨⟨xv,t⟩,o⟩:∃x,R5[j]?=oM x:=⟨_,eG (by rw[p.AM.len];exact b8)⟩
      have b9:P[j]?=oM t:=by have h1:=congrArg (·[j]?) ao;simp only[pG,o,Option.map_some]at h1;rw[List.getElem?_append_right oC,List.getElem?_drop]at h1;simp only[lM,List.length_take]at h1;rw[ax.out,show j+(j-min j N)=j by omega]at h1;exact h1.symm
      have dh:t.length<=100000:=by have:=p.short t (List.mem_map.2 ⟨_,mG o,rfl⟩);omega
      have cx:=Hd (c9 t (mG b9));have bn:Hid ((R5.map (·.2)).set j (DF t)=(P.take (j+1)).map DF++P.drop (j+1)):=Hd (by rw[ao.out];exact Wv DF P j t b9);have aw:=Hd (p.AM.own j _ o);have b3:=Bh p.AM.row j nX;rw[pG,o]at b3;simp only[Option.map_some]at b3;obtain⟨cy,ad⟩:=p.AM.Aj;have dr:(j:Int)<(N:Int):=by omega
      have dp:=Ah.frozen ad j;have dq:=Ah.lt ad;have bd:=Hd ad;have cc:=Hd ((Ah.cell ad j).symm.trans b3);have HX:=Hd o;have bm:Hid (E6 (301*k) ((R5.map (·.2)).set j (DF t))):=Hd (by
       intro r hr;rcases List.mem_or_eq_of_mem_set hr with h1|rfl
       · exact p.short r h1
       · have h1:=p.short t (List.mem_map.2 ⟨_,mG o,rfl⟩)
         have h2:=Ph (I5 t);rw[R7]at h2;unfold DF;omega)
      clear o b9 ad;rcases Bj aw.out with⟨hv,h0⟩|⟨b,c',hv,dk,aa,bo,a0,-⟩
      ·simp only at hv h0
       subst hv;obtain rfl:t=[]:=List.eq_nil_of_length_eq_zero h0;have ch:=Hd (fun y=>Zo y);have hd:=p.later (w2:=U.drew) ((Below.refl _ U).drew);have b0:=Hd (hd.ordered HX (W:=U.drew) (nv:=oG oN 0 0) (l:=DF []) (Am.refl _ _) ⟨rfl,.inl ⟨rfl,rfl⟩⟩ rfl bm);clear hd;clear h0;go_wp2_with fail
       go_region_law (first|(go_simp;go_at_call 179;refine(ch _).mono ?_;rintro e w8 ⟨rfl,rfl⟩))
       all_goals go_wp2_with fail
       all_goals go_roundw
       all_goals first
         | exact⟨j+1,_,nX,oD,Hd b0,Hd (by rw[List.map_set];exact bn)⟩
         | (simp[intOf];omega)
      ·simp only at hv bo a0
       subst hv;have hd:=p.later (w2:=U.drew) ((Below.refl _ U).drew);have c6:DG U.drew w.heap.size b t.length c' t:=AU aw ((Below.refl _ U).drew);have cj:=Hd (aL c6 dh bo cx);have b0:Hid (∀w8,DG w8 w.heap.size b (DF t).length c' (DF t)->Am (·=b) U.drew w8->C4 w (w8.setCell ⟨i,j,oN⟩ (oG (b,0) (DF t).length c')) J w.heap.size (i+1) (i+1+1) i N N n (301*k) (R5.set j (oG (b,0) (DF t).length c',DF t)) M D/\Ah w8 (i+1) 201 #[oG (oM ⟨i,0,oN⟩) N N]/\Ah w8 i 116 cy):=Hd (fun w8 h8 k8=>by
         have kc:Am (fun k=>(Value.slice (b,0) t.length c').ownBlock=oM k) U.drew w8:=k8.mono (fun c7 hi=>by rw[hi];rfl);have T:∀{q:Nat} {c8:TypeId} {cs:Array oV},Ah U q c8 cs->c8≠220->q≠b:=fun hq ht e=>Du aw hq (Ne.symm ht) (by rw[e];rfl)
         exact⟨hd.ordered HX kc h8 rfl bm,k8.Aj (Ah.drew p.r) (T p.r nY),k8.Aj (Ah.drew bd) (T bd nY)⟩)
       clear hd c6;go_wp2_with fail
       go_region_law (first|(
            go_simp;go_at_call 179;refine cj.mono ?_;rintro e w8 ⟨rfl,h8,k8⟩;obtain⟨t1,t2,t3⟩:=b0 w8 h8 k8;have cw:=Hd t1;have r8:=Ah.cell t2 0;have g8:=(Ah.cell t3 j).trans cc;have f8:=Ah.frozen t3 j;have l8:=Ah.lt t3;simp at r8;clear t1 t2 t3 h8 k8))
       all_goals go_wp2_with fail
       all_goals go_roundw
       all_goals first
         | exact⟨j+1,_,nX,oD,Hd cw,Hd (by rw[List.map_set];exact bn)⟩
         | (simp[intOf];omega)
     ·obtain rfl:j=N:=by omega
      have cd:Hid (R5.map (·.2)=P.map DF):=Hd (by have:=ao.out;rw[Da (by rw[ax.out];omega),List.drop_of_length_le (by rw[ax.out];omega),List.append_nil]at this;exact this);go_wp2_with fail
      go_ret;exact⟨_,_,_,rfl,p.AM,by rw[cd.out,bl.out],p.below⟩
