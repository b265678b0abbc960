/- . -/
import Derived.Test.YtendpobbjjaopaaGreatDoorXak
import Derived.Test.YtendpobbjjaopaaGreatDoorXal
set_option linter.all false
set_option maxRecDepth 100000
set_option maxHeartbeats 16000000
namespace Go.Proofs.YtendpobbjjaopaaGreatDoor
open Go.RowKit Go.Proofs.Tryz
open Value renaming slice→oG
open Option renaming some→oM,none→oN
open IntKind renaming i64→oO
open World renaming cell?→oT
open Go renaming World→oU,Value→oV
variable{w':oU}{iv:oV}{e:TypeId}{size:Nat}{xs:List oV}{cs:Array oV}{A:Option Addr}
def XF:El Tryz.prog 104 119 2 48:=El.of (z:=.agg #[oG oN 0 0,oG oN 0 0]) underlying104 nZ rfl nY
def Fp(x:oV×oV):List oV:=[x.1,x.2]
def EI(L:List (List It))(l:List It):Nat×List (List It):=if l∈L then(L.idxOf l,L) else(L.length,L++[l])
def Jk(l:List It):Prop:=l.length<=100000/\∀x∈l,x.1<65536/\x.2<256
structure DU(w0 w:oU)(bb mb tb:Nat)(v:oV)(g:Gz)(bv sv:oV)(V:List (oV×oV))(L:List (List It))(D:DataW Unit):Prop where
 gn:GN w0 v g
 Aj:Ah w bb 203 (v.cells++#[bv,sv,.map (oM mb),.map (oM tb)])
 rows:w.ownsRow w0 119 2 sv V.length (V.flatMap Fp)
 len:L.length=V.length
 items:∀(k:Nat) (x:oV×oV) (l:List It),V[k]?=oM x->L[k]?=oM l->w.ownsRow w0 220 2 x.1 l.length (l.flatMap Bg)
 map:Io w mb V.length D
 at_:Jb D (L.map Cg)
 ok:∀l∈L,Jk l
 b0:w0.heap.size<=bb/\w0.heap.size<=mb
 below:Below w0 w0 w
 small:V.length<=100000
 Jj:∀x∈V,x.2=oG oN 0 0
variable{mb tb:Nat}{v:oV}{V:List (oV×oV)}{L:List (List It)}{D:DataW Unit}{l:List It}
def DU.later{t w:oU}{j:Nat}{g:Gz}{o p:oV}(h:DU t w j mb tb v g o p V L D)(i:Below w w w'):DU t w' j mb tb v g o p V L D:=
 ⟨h.gn,(i.block j (Ah.lt h.Aj)).trans h.Aj,AU h.rows i,h.len,fun k x l J I=>AU (h.items k x l J I) i,h.map.kept (row:=oN) ⟨i.os,i.tape,i.output,i.size,fun k C _=>i.block k C⟩ oA,h.at_,h.ok,h.b0,h.below.trans (i.mono h.below.size),h.small,h.Jj⟩
theorem DU.bg{t w:oU}{i:Nat}{g:Gz}{l p:oV}(h:DU t w i mb tb v g l p V L D):BG w i v g:=by
 refine⟨h.gn.later h.below,fun j o=>?_⟩;obtain⟨J,T,C,P,I,R,rfl,-,-⟩:=h.gn.open_;rw[h.Aj.cell]
 match j,o with
 | 0,_=>rfl
 | 1,_=>rfl
 | 2,_=>rfl
 | 3,_=>rfl
def M1(j:∀m∈L,Jk m)(o:Jk l):Cg l∈L.map Cg<->l∈L:=by rw[List.mem_map];exact⟨fun⟨m,i,e⟩=>PQ (j m i).2 o.2 e▸i,fun h=>⟨l,h,rfl⟩⟩
theorem eN(i:∀m∈L,Jk m)(C:Jk l):(L.map Cg).idxOf (Cg l)=L.idxOf l:=by
 induction L with
 | nil=>rfl
 | cons m L J=>
  have t:=J fun x I=>i x (List.mem_cons_of_mem _ I)
  rw[List.map_cons,List.idxOf_cons,List.idxOf_cons,t];by_cases e:m=l
  ·subst e;simp
  ·have p:Cg m≠Cg l:=fun h=>e (PQ (i m (List.mem_cons_self ..)).2 C.2 h)
   have j:(m==l)=false:=beq_false_of_ne e;have o:(Cg m==Cg l)=false:=beq_false_of_ne p;rw[j,o]
def DU.more{o w:oU}{C:Nat}{g:Gz}{I sv:oV}(h:DU o w C mb tb v g I sv V L D)(P:Jk l)(hn:l ∉ L)(hV:V.length<100000)
  {J:oV} (U:Ah w' C 203 (v.cells++#[I,J,.map (oM mb),.map (oM tb)])) (hr:w'.ownsRow o 119 2 J (V.length+1) (V.flatMap Fp++[iv,oG oN 0 0]))
  (hi:w'.ownsRow o 220 2 iv l.length (l.flatMap Bg)) (ho:∀(k:Nat) (x:oV×oV) (m:List It),V[k]?=oM x->L[k]?=oM m->w'.ownsRow o 220 2 x.1 m.length (m.flatMap Bg))
  (hm:Io w' mb (V.length+1) (D.put (Cj (Cg l)) (.lit (.int oO (V.length:Nat))))) (a0:Below o o w'):DU o w' C mb tb v g I J (V++[(iv,oG oN 0 0)]) (L++[l]) (D.put (Cj (Cg l)) (.lit (.int oO (V.length:Nat)))):=by
 have t:Cg l ∉ L.map Cg:=fun hh=>hn ((M1 h.ok P).1 hh)
 refine⟨h.gn,U,?_,by simp[h.len],?_,by simpa using hm,?_,?_,h.b0,a0,oC,?_⟩
 ·simpa [Fp] using hr
 ·intro k x m j p
  by_cases t:k<V.length
  ·rw[gL t]at j
   rw[gL (by rw[h.len];exact t)]at p;exact ho k x m j p
  ·have a1:=(sG.1 j).1
   simp at a1;obtain rfl:k=V.length:=by omega
   have R:(V++[(iv,Value.slice oN 0 0)])[V.length]?=oM (iv,oG oN 0 0):=by simp
   have T:(L++[l])[V.length]?=oM l:=by rw[<-h.len];simp
   rw[R]at j;rw[T]at p;cases j
   cases p
   exact hi
 ·have:=h.at_.next h.map.isMap t
  rw[lM,h.len]at this;rw[BB];exact this
 ·intro m p
  rcases mA.1 p with i|i
  ·exact h.ok m i
  ·rw[mS.1 i];exact P
 ·intro x j
  rcases mA.1 j with i|i
  ·exact h.Jj x i
  ·rw[mS.1 i]
def FB{w:oU}{B b:Nat}{t:TypeId}{n:Nat}(h:w.ownsRow B e size v n xs)(o:Ah w b t cs)(C:t≠e):∀k,v.ownBlock=oM k->k≠b:=by
 intro k i;rintro rfl;rcases h.2 with⟨rfl,_⟩|⟨g,cap,j,rfl,_,p,_⟩
 ·cases i
 ·cases i
  have l:Ah w g e j:=p;exact Ah.Bb o l C rfl
def Qx{w:oU}{B p:Nat}{n:Nat}(h:w.ownsRow B e size v n xs)(o:Io w mb p D):v.ownBlock≠oM mb:=by
 intro j;obtain⟨C,clock,l,_⟩:=o;rcases h.2 with⟨rfl,_⟩|⟨g,cap,t,rfl,_,i,_⟩
 ·cases j
 ·cases j
  rw[l]at i;cases i
def U5{w:oU}{b l:Nat}{t:TypeId}(h:Ah w b t cs)(j:Io w mb l D):b≠mb:=by rintro rfl;obtain⟨o,clock,i,_⟩:=j;unfold Ah at h;rw[i]at h;cases h
def DU.mapped{i w w2:oU}{p:Nat}{g:Gz}{t o:oV}(h:DU i w p mb tb v g t o V L D)(j:w.grownBy w2 (oM mb)) :
  Ah w2 p 203 (v.cells++#[t,o,.map (oM mb),.map (oM tb)])/\w2.ownsRow i 119 2 o V.length (V.flatMap Fp)/\(∀(iv:oV) (l:List It),w.ownsRow i 220 2 iv l.length (l.flatMap Bg)->w2.ownsRow i 220 2 iv l.length (l.flatMap Bg))/\Below i i w2/\Am (·=mb) w w2:=
 ⟨h.Aj.grown j (by have:=U5 h.Aj h.map;simp;exact this),h.rows.kept (row:=oM mb) j (.inr (Qx h.rows h.map)),fun iv l C=>C.kept (row:=oM mb) j (.inr (Qx C h.map)),h.below.grown j h.below.size (fun k I=>by cases I;exact h.b0.2),Am.of_map j⟩
def DU.added{p w w2 j:oU}{i:Nat}{g:Gz}{bv U:oV}(h:DU p w i mb tb v g bv U V L D)(hl:Jk l)(hn:l ∉ L)(hV:V.length<100000)(t:w.ownsRow p 220 2 iv l.length (l.flatMap Bg))
  (hg:w.grownBy w2 (oM mb)) (hm:Io w2 mb (V.length+1) (D.put (Cj (Cg l)) (.lit (.int oO (V.length:Nat))))) {o:Obj}  {c:Nat} (r1:j.ownsRow p 119 2 (oG A (V.length+1) c) (V.length+1) (V.flatMap Fp++[iv,oG oN 0 0]))
  (J:AI p [119] (w2.alloc o) j) (r3:(w2.alloc o).grownBy j U.ownBlock) :
  DU p (j.setCell (i,5) (oG A (V.length+1) c)) i mb tb v g bv (oG A (V.length+1) c) (V++[(iv,oG oN 0 0)]) (L++[l]) (D.put (Cj (Cg l)) (.lit (.int oO (V.length:Nat))))/\Am (fun k=>k=i\/k=mb\/U.ownBlock=oM k) w (j.setCell (i,5) (oG A (V.length+1) c)):=by
 obtain⟨m1,m2,m3,T,m5⟩:=h.mapped hg;obtain⟨AT,cT,AN,cN,AR,cR,rfl,-,-⟩:=h.gn.open_;have C:=J.Aj (m1.alloc o) (.inr nY);have p3:Io j mb (V.length+1) (D.put (Cj (Cg l)) (.lit (.int oO (V.length:Nat)))):=by obtain⟨es,clock,P,rest⟩:=hm.alloc o;exact⟨es,clock,(J.block mb (aG.1 P).1 (.inr fun cs a3 m hh=>by rw[P]at hh;cases hh)).trans P,rest⟩
 have R:Am (·=i) j (j.setCell (i,5) (oG A (V.length+1) c)):=Am.set (X:=(·=i)) (Am.refl _ j) (p:=(i,5)) (.inr rfl) _;have ho:∀(I:oV) (m:List It),w.ownsRow p 220 2 I m.length (m.flatMap Bg)->(j.setCell (i,5) (oG A (V.length+1) c)).ownsRow p 220 2 I m.length (m.flatMap Bg):=fun I m hj=>by have h3:=J.own ((m3 I m hj).alloc o) (.inr nY);exact R.own h3 (FB h3 C nY)
 have a2:p.heap.size<=(w2.alloc o).heap.size:=by have:=T.size;simp;omega
 refine⟨h.more hl hn hV (C.Ba 5 _) (R.own r1 (FB r1 C nY)) (ho _ _ t) (fun k x m hx a1=>ho _ _ (h.items k x m hx a1)) (p3.setCell (by have:=U5 C p3;simp;exact fun e=>this e.symm) _) ?_,?_⟩
 ·exact((T.alloc T.size o).trans (J.below a2)).setCell (p:=(i,5)) h.b0.1 _
 ·exact(((m5.mono fun a0 t=>.inr (.inl t)).alloc o).next ((Am.CM r3).mono fun a0 t=>.inr (.inr t))).next (R.mono fun a0 t=>.inl t)
def Oq(C w:oU)(i mb tb:Nat)(v:oV)(g:Gz)(o p:oV)(r:Nat×List (List It))(e:Ending)(w':oU):Prop:=
 e=.returned (.int oO (r.1:Nat))/\∃t l j,DU C w' i mb tb v g o t l r.2 j/\Am (fun k=>k=i\/k=mb\/p.ownBlock=oM k) w w'
def QV{w0 w:oU}{bb:Nat}{g:Gz}{bv sv:oV}(h:DU w0 w bb mb tb v g bv sv V L D)(hr:w.ownsRow w0 220 2 iv l.length (l.flatMap Bg))(C:Jk l)(hV:V.length<100000) :
  () 126 #[(bb,0),iv] w (Oq w0 w bb mb tb v g bv sv (EI L l)):=by
 have HK:=Hd (Wj (CQ.own hr (by have:=C.1;omega)) C.1 (fun x hx=>by have:=C.2 x hx;omega));obtain⟨Ai,ci,rfl⟩:=BK hr;obtain⟨As,cs,rfl⟩:=BK h.rows;obtain⟨AT,cT,AN,cN,AR,cR,rfl,-,-⟩:=h.gn.open_;have HH:=Hd h;have HR:=Hd hr;have j:=Hd C;clear h hr C;have HD:Hid (Below w w w->True):=Hd fun _=>trivial
 by_cases p:l∈L
 ·have J:EI L l=(L.idxOf l,L):=if_pos p
  rw[J];unfold Oq;have t:=Hd p;clear J p;go_enter func126,ntmps126
  go_wp2_with (
   go_at_call 176;refine HK.mono ?_;rintro e w1 ⟨rfl,o⟩
   have i:=HH.later o;have U:=Um i.map i.at_ (s:=Cg l) (by rw[JG];have:=j.1;omega);rw[if_pos ((M1 i.ok j).2 t),eN i.ok j,decide_eq_true ((M1 i.ok j).2 t)]at U;have z6:=Ah.cell i.Aj 6;simp[Value.cells]at z6;have P:=Hd o;have H1:=Hd i;clear o i)
  go_ret;exact⟨rfl,_,_,_,H1,(Am.AJ P)⟩
 ·have J:EI L l=(L.length,L++[l]):=if_neg p
  rw[J];unfold Oq;have t:=Hd p;clear J p;go_enter func126,ntmps126
  go_wp2_with (
   go_at_call 176;refine HK.mono ?_;rintro e w1 ⟨rfl,o⟩
   have i:=HH.later o;have U:=Um i.map i.at_ (s:=Cg l) (by rw[JG];have:=j.1;omega);have a2:Cg l ∉ L.map Cg:=fun hh=>t ((M1 i.ok j).1 hh)
   rw[if_neg a2,decide_eq_false a2]at U;have z5:=Ah.cell i.Aj 5;have z6:=Ah.cell i.Aj 6;simp[Value.cells]at z5 z6;have P:=Hd o;have H1:=Hd i;clear o i a2)
  have R:=Hd (H1.later ((Below.refl _ w1).drew));obtain⟨w2,a9,a4,a1⟩:=kI R.map nX (s:=Cg l) (by rw[JG];have:=j.1;omega) (c:=V.length) nX;have I:=R.mapped a1;have a7:=Hd a4;have a5:=Hd a1;have a0:=Hd I;have e5:=Ah.cell I.1 5;have f5:=Ah.frozen I.1 5;simp[Value.cells]at e5;have aa:=Ah.lt I.1;clear a4 a1 I
  go_region
  clear a9 z5 z6 U;have a8:=R.len;have a3:=AU HR P.drew;have a6:=Hd a3;clear a3;go_wp2_with (
   at_builtin;refine DC XF (.tmp 35) (.tmp 38) rfl rfl (base:=w0.heap.size) (n:=V.length) (m:=1) (N:=V.length+1) (xs:=V.flatMap Fp) (news:=[oG Ai l.length ci,oG oN 0 0]) rfl rfl (a0.2.1.alloc _) (Be.Aj (c:=1) (cs:=[oG Ai l.length ci,oG oN 0 0]) (Ah.new w2 119 _) rfl oE) rfl oB nX (by have:=a0.2.2.2.1.size;simp;omega) ?_
   intro A3 c3 w3 r1 r2 r3;have HF:=Hd (R.added j t hV a6 a5 a7 r1 r2 r3.1);have T:=r2.Aj (a0.1.alloc _) (.inr nY);have e6:=Ah.cell T 5;have f6:=Ah.frozen T 5;simp[Value.cells]at e6;have ab:=Ah.lt T;clear r1 r2 r3 T)
  go_ret;exact⟨by rw[a8];rfl,_,_,_,HF.1,(Am.AJ P.drew).next HF.2⟩
structure B8(w:oU)(B g n c:Nat)(R:List (oV×List It)):Prop where
 row:w.ownsRow B 116 1 (oG (g,0) n c) n (R.map (·.1))
 own:∀(k:Nat) (x:oV×List It),R[k]?=oM x->w.ownsRow B 220 2 x.1 x.2.length (x.2.flatMap Bg)
 apart:∀(i j:Nat) (x y:oV×List It),R[i]?=oM x->R[j]?=oM y->i≠j->∀k,x.1.ownBlock=oM k->y.1.ownBlock≠oM k
variable{w:oU}{B c g n:Nat}{R:List (oV×List It)}
def B8.len(h:B8 w B g n c R):R.length=n:=by have:=h.row.1;simpa using this
def B8.later(h:B8 w B g n c R)(i:Below w w w'):B8 w' B g n c R:=
 ⟨AU h.row i,fun k x j=>AU (h.own k x j) i,h.apart⟩
def B8.AA{X:Nat->Prop}(h:B8 w B g n c R)(i:Am X w w')(o:¬X g)(l:∀(k:Nat) (x:oV×List It),R[k]?=oM x->∀b,x.1.ownBlock=oM b->¬X b):B8 w' B g n c R:=
 ⟨i.own h.row (fun k p=>by cases p;exact o),fun k x j=>i.own (h.own k x j) (l k x j),h.apart⟩
def B6(h:w.ownsRow B e size v n xs):∀k,v.ownBlock=oM k->k<w.heap.size/\B<=k:=by
 intro k i;rcases h.2 with⟨rfl,_⟩|⟨g,cap,o,rfl,j,l,_⟩
 ·cases i
 ·cases i
  exact⟨(aG.1 l).1,j⟩
def B8.Aj(h:B8 w B g n c R):∃i,Ah w g 116 i:=by
 rcases h.row.2 with⟨j,_⟩|⟨o,cap,i,j,p,l,_⟩
 ·cases j
 ·cases j;exact⟨i,l⟩
def B8.put{W o:oU}(h:B8 w B g n c R)(hW:Below w w W){s:Nat}{x:oV×List It}(hx:R[s]?=oM x){nv:oV}
  (r1:o.ownsRow B 220 2 nv l.length (l.flatMap Bg)) (r2:AI B [220] W o) (r3:W.grownBy o x.1.ownBlock/\(nv.ownBlock=x.1.ownBlock\/nv.ownBlock=oM W.heap.size)):B8 (o.setCell (g,s) nv) B g n c (R.set s (nv,l)):=by
 have t:=h.later hW;obtain⟨U,a9⟩:=sG.1 hx;have a8:=h.len;obtain⟨a7,a4⟩:=t.Aj;have a2:=r2.Aj a4 (.inr nY);have hc:Am (·=g) o (o.setCell (g,s) nv):=Am.set (X:=(·=g)) (Am.refl _ o) (p:=(g,s)) (.inr rfl) _;have a5:=r2.own t.row (.inr nY);refine⟨?_,?_,?_⟩
 ·have:=Ge a5 s nX nv
  rw[List.map_set];exact this
 ·intro k y j
  by_cases T:k=s
  ·subst T
   rw[tG U]at j;cases j
   exact hc.own r1 (FB r1 a2 nY)
  ·rw[uG (fun e=>T e.symm)]at j
   have a6:=t.own k y j;have a3:o.ownsRow B 220 2 y.1 y.2.length (y.2.flatMap Bg):=(Am.CM r3.1).own a6 (fun b i he=>h.apart s k x y hx j (fun e=>T e.symm) b he i);exact hc.own a3 (FB a3 a2 nY)
 ·intro a0 a1 a b ha i P k C I
  have key:∀(m:Nat) (y:oV×List It),R[m]?=oM y->m≠s->∀k,nv.ownBlock=oM k->y.1.ownBlock≠oM k:=fun m y j hm k p h2=>by
   rcases r3.2 with e|e
   ·rw[e]at p
    exact h.apart s m x y hx j (fun e=>hm e.symm) k p h2
   ·rw[e]at p
    cases p
    have:=(B6 (t.own m y j) _ h2).1;omega
  by_cases J:a0=s
  ·subst J
   rw[tG U]at ha;cases ha
   rw[uG P]at i;exact key a1 b i (fun e=>P e.symm) k C I
  ·rw[uG (fun e=>J e.symm)]at ha
   by_cases hj:a1=s
   ·subst hj
    rw[tG U]at i;cases i
    exact key a0 a ha J k I C
   ·rw[uG (fun e=>hj e.symm)]at i
    exact h.apart a0 a1 a b ha i P k C I
def I9(R:List (List It))(s:Nat)(x:It):List (List It):=R.modify s (·++[x])
def Dz(g:Gz)(R:List (List It))(x:It):List (List It):=if g.next x=0 then R else I9 R (g.next x) (x.1,x.2+1)
def lV(R:List (oV×List It))(s:Nat)(x:oV×List It)(j:R[s]?=oM x)(nv:oV)(l:It):(R.set s (nv,x.2++[l])).map (·.2)=I9 (R.map (·.2)) s l:=by
 unfold I9;rw[List.map_set];apply List.ext_getElem?;intro k;rw[List.getElem?_modify,List.getElem?_set];by_cases i:s=k
 ·subst i
  have o:=(sG.1 j).1;have e:=(sG.1 j).2;simp[o,e]
 ·simp[i]
def IX(j:Nat)(R:List (oV×List It))(k:Nat):Prop:=k=j\/∃(i:Nat) (x:oV×List It),R[i]?=oM x/\x.1.ownBlock=oM k
def V8{p W o:oU}{l j:Nat}(I:B8 p l j n c R)(a0:Below w w p)(C:Below p p W)(a3:l<=w.heap.size){s k d:Nat}{t:oV}{i:List It}(J:R[s]?=oM (t,i)){c3:Nat}
  (r1:o.ownsRow l 220 2 (oG A (i.length+1) c3) (i.length+1) (i.flatMap Bg++Bg (k,d+1))) (T:AI l [220] W o) (U:W.grownBy o t.ownBlock/\((Value.slice A (i.length+1) c3).ownBlock=t.ownBlock\/(Value.slice A (i.length+1) c3).ownBlock=oM W.heap.size)) :
  ∃P,B8 (o.setCell (j,s) (oG A (i.length+1) c3)) l j n c P/\P.map (·.2)=I9 (R.map (·.2)) s (k,d+1)/\Am (IX j R) w (o.setCell (j,s) (oG A (i.length+1) c3)):=by
 have hg:l<=j:=(B6 I.row j rfl).2;obtain⟨a2,a1⟩:=(I.later C).Aj;have a4:=T.Aj a1 (.inr nY);refine⟨_,I.put C J (l:=i++[(k,d+1)]) (by simpa using r1) T U,lV R s (t,i) J _ _,?_⟩;exact(((Am.AJ a0).next (Am.AJ C)).next ((Am.CM U.1).mono fun a5 hi=>.inr ⟨s,_,J,hi⟩)).set (p:=(j,s)) (.inr (.inl rfl)) _
def ZR{bb pb rb I l:Nat}{g:Gz}(aa:BG w bb v g)(U:Ah w pb 199 #[(bb,0)])(ab:Ah w rb 201 #[oG (l,0) n c])(hf:B8 w I l n c R)(hB:I<=w.heap.size)
  {k d:Nat} (hk:k<=g.R.length) (hd:d<=10000) (hn:g.next (k,d)<n) (hl:∀(j:Nat) (x:oV×List It),R[j]?=oM x->x.2.length<=100000) :
  () 178 #[CN (k,d),(pb,0),(rb,0)] w fun e w'=>e=.returned (.tuple #[])/\∃R',B8 w' I l n c R'/\R'.map (·.2)=Dz g (R.map (·.2)) (k,d)/\Am (IX l R) w w':=by
 have an:=hf.len;obtain⟨s,hs⟩:∃s,g.next (k,d)=s:=⟨_,rfl⟩
 have p:=Hd (AG w (.cells #[.int oO k,d] 220));have HN:=Hd (fun y (hy:Below w w y)=>N4 (aa.later hy) hk (d:=d) nX);have HX:=Hd (Ah.new w 220 #[.int oO k,d]);have HP:=Hd U;have a6:=Hd ab;have HF:=Hd hf;have HL:=Hd hl;have a9:Dz g (R.map (·.2)) (k,d)=if s=0 then R.map (·.2) else I9 (R.map (·.2)) s (k,d+1):=by unfold Dz;rw[hs]
 rw[a9];rw[hs]at hn HN;have z0:=(p.cell (p:=(pb,0)) U.lt).trans (U.cell 0);simp at z0;clear aa U ab hf hl hs a9;unfold CN;by_cases h0:s=0
 ·subst h0
  rw[if_pos rfl];go_enter func178,ntmps178
  go_wp2_with (go_at_call 175;refine(HN _ p).mono ?_;rintro e i ⟨rfl,C⟩;have t:=Hd (p.trans (C.mono p.size));clear C)
  go_end0
  exact⟨rfl,R,HF.later t,rfl,Am.AJ t⟩
 ·rw[if_neg h0]
  obtain⟨⟨xv,P⟩,hx⟩:∃x,R[s]?=oM x:=⟨_,eG nX⟩
  have ak:=HL _ _ hx;simp only at ak;obtain⟨Ax,cx,ae⟩:=BK (HF.own _ _ hx);simp only at ae;subst ae;have T:=Hd hx;clear hx;have ao:(0:Int)<(s:Int):=by omega
  have ar:(s:Int)<(n:Int):=by omega
  go_enter func178,ntmps178
  go_wp2_with (go_at_call 175;refine(HN _ p).mono ?_;rintro e i ⟨rfl,C⟩;have t:=Hd (p.trans (C.mono p.size));have a2:=Hd (HX.below C oA);clear C)
  have J:=HF.later t;have a1:=Hd J;have a5:=Hd (J.own _ _ T);have a0:=a6.below t (Ah.lt a6);have c0:oT i (rb,0)=_:=Ah.cell a0 0;have aq:=Ah.lt a0;have c1:oT i ⟨l,s,oN⟩=oM (oG Ax P.length cx):=by have h1:=Bh J.row s nX;rw[pG,T.out]at h1;exact h1
  obtain⟨aj,a3⟩:=J.Aj;have al:=Ah.lt a3;have x0:oT i (w,0)=_:=Ah.cell a2 0;have x1:oT i (w,1)=_:=Ah.cell a2 1;have aw:=Ah.lt a2;simp only[List.getElem?_toArray,List.getElem?_cons_zero,List.getElem?_cons_succ]at c0 x0 x1;have av:=t.size;have a7:=Hd a0;have a4:=Hd a3;have au:IntKind.i64.wrap ((d:Int)+1)=(d:Int)+1:=IntWalk.i64_in _ nX;clear J a0 a3 z0;generalize ad:w.heap.size=xb at *;have a8:=Hd ad;clear ad;go_region_law (
    refine ER Pr (.tmp 15) (.tmp 22) ?_ ?_ (base:=I) (n:=P.length) (m:=1) (N:=P.length+1) (v:=oG Ax P.length cx) (src:=oG (i,0) 1 1) (xs:=P.flatMap Bg) (news:=Bg (k,d+1)) ?_ ?_ ?_ ?_ ?_ ?_ ?_ ?_ ?_
    ·rfl
    ·rfl
    ·rfl
    ·rfl
    ·first|exact(AU a5 ((Below.refl _ i).drew)).alloc _|exact AU (a5.alloc _) ((Below.refl _ _).drew)
    ·first|exact PC (k,d+1) i.drew|exact PC (k,d+1) i
    ·rfl
    ·unfold maxLen;omega
    ·omega
    ·simp;omega
    intro A3 c3 w3 r1 o r3;have af:=Hd r1;have ag:=Hd o;have ah:=Hd r3;have b3:Ah w3 rb 201 #[oG (l,0) n c]:=by first|exact o.Aj ((a7.drew).alloc _) (.inr nY)|exact o.Aj (Ah.drew (a7.alloc _)) (.inr nY)
    have ai:=Ah.cell b3 0;simp at ai;have g3:Ah w3 l 116 aj:=by first|exact o.Aj ((a4.drew).alloc _) (.inr nY)|exact o.Aj (Ah.drew (a4.alloc _)) (.inr nY)
    have f3:=Ah.frozen g3 s;have o3:w3.ownsRow I 116 1 (oG (l,0) n c) n (R.map (·.1)):=by first|exact o.own ((AU a1.row ((Below.refl _ i).drew)).alloc _) (.inr nY)|exact o.own (AU (a1.row.alloc _) ((Below.refl _ _).drew)) (.inr nY)
    have q3:=Bh o3 s nX;rw[pG,T.out]at q3;simp only[Option.map_some]at q3;clear r1 o r3 b3 g3 o3)
  all_goals go_end0
  all_goals refine⟨rfl,?_⟩
  all_goals refine V8 a1 (by rw[a8.out];exact t) ?_ (by rw[a8.out];exact hB) T af ag ah
  all_goals exact⟨rfl,rfl,rfl,oA,fun k hk=>Below.heap_alloc i _ _ hk⟩
namespace Gz
def EG(g:Gz)(bg:List (List It))(p:List (List It)×List Nat)(x:It):List (List It)×List Nat:=
 let s:=g.next x
 if s∈p.2\/g.BW s=false then(Dz g p.1 x,p.2) else((bg.getD s []).foldl (Dz g) (Dz g p.1 x),s::p.2)
def G1(g:Gz)(bg:List (List It))(l:List It):List (List It):=((l.foldl (g.EG bg) (List.replicate (g.top+1) [],[])).1).map DF
end Gz
def E6(m:Nat)(R:List (List It)):Prop:=∀l∈R,l.length<=m
theorem E6.move{m:Nat}{R:List (List It)}(h:E6 m R)(g:Gz)(x:It):E6 (m+1) (Dz g R x):=by
 unfold Dz;split
 ·exact fun l o=>Nat.le_succ_of_le (h l o)
 ·intro l o
  obtain⟨i,j⟩:=List.mem_iff_getElem?.1 o;unfold I9 at j;rw[List.getElem?_modify]at j;cases p:R[i]? with
  | none=>rw[p]at j;cases j
  | some r=>
   rw[p]at j;have t:=h r (mG p);simp only[Option.map_eq_map,Option.map_some,Option.some.injEq]at j;subst j;split
   ·simp;exact t
   ·omega
theorem E6.LD{m:Nat}{R:List (List It)}(h:E6 m R)(g:Gz):∀l:List It,E6 (m+l.length) (l.foldl (Dz g) R)
 | []=>h
 | x::l=>by have:=E6.LD (h.move g x) g l;rw[List.foldl_cons,List.length_cons,show m+(l.length+1)=m+1+l.length by omega];exact this
