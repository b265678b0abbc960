/- . -/
import Derived.Test.YtiljpamcmmeflaaGreatDoorXak
import Derived.Test.YtiljpamcmmeflaaGreatDoorXal
set_option linter.all false
set_option maxRecDepth 100000
set_option maxHeartbeats 16000000
namespace Go.Proofs.YtiljpamcmmeflaaGreatDoor
open Go.RowKit Go.Proofs.Tryz
open Value renaming slice→nC
open Option renaming some→nJ,none→nK
open IntKind renaming i64→nM
open World renaming cell?→nQ
open Go renaming World→nS,Value→nU
variable{w':nS}{iv:nU}{e:TypeId}{size:Nat}{xs:List nU}{cs:Array nU}{A:Option Addr}
def aB:El Tryz.prog 136 151 2 48:=El.of (z:=.agg #[nC nK 0 0,nC nK 0 0]) underlying136 mU rfl mT
def E8(x:nU×nU):List nU:=[x.1,x.2]
def Er(L:List (List It))(l:List It):Nat×List (List It):=if l∈L then(L.idxOf l,L) else(L.length,L++[l])
def Ja(l:List It):Prop:=l.length<=100000/\∀x∈l,x.1<65536/\x.2<256
structure DQ(w0 w:nS)(bb mb tb:Nat)(v:nU)(g:Gz)(bv sv:nU)(V:List (nU×nU))(L:List (List It))(D:DataW Unit):Prop where
 gn:GN w0 v g
 Ap:Ah w bb 240 (v.cells++#[bv,sv,.map (nJ mb),.map (nJ tb)])
 rows:w.ownsRow w0 151 2 sv V.length (V.flatMap E8)
 len:L.length=V.length
 items:∀(k:Nat) (x:nU×nU) (l:List It),V[k]?=nJ x->L[k]?=nJ l->w.ownsRow w0 256 2 x.1 l.length (l.flatMap Bf)
 map:Ie w mb V.length D
 at_:I0 D (L.map Cb)
 ok:∀l∈L,Ja l
 b0:w0.heap.size<=bb/\w0.heap.size<=mb
 below:Below w0 w0 w
 small:V.length<=100000
 I2:∀x∈V,x.2=nC nK 0 0
variable{mb tb:Nat}{v:nU}{V:List (nU×nU)}{L:List (List It)}{D:DataW Unit}{l:List It}
def DQ.later{t w:nS}{j:Nat}{g:Gz}{o p:nU}(h:DQ t w j mb tb v g o p V L D)(i:Below w w w'):DQ t w' j mb tb v g o p V L D:=
 ⟨h.gn,(i.block j (Ah.lt h.Ap)).trans h.Ap,AV h.rows i,h.len,fun k x l J I=>AV (h.items k x l J I) i,h.map.kept (row:=nK) ⟨i.os,i.tape,i.output,i.size,fun k C _=>i.block k C⟩ mV,h.at_,h.ok,h.b0,h.below.trans (i.mono h.below.size),h.small,h.I2⟩
theorem DQ.bg{t w:nS}{i:Nat}{g:Gz}{l p:nU}(h:DQ t w i mb tb v g l p V L D):BG w i v g:=by
 refine⟨h.gn.later h.below,fun j o=>?_⟩;obtain⟨J,T,C,P,I,R,rfl,-,-⟩:=h.gn.open_;rw[h.Ap.cell]
 match j,o with
 | 0,_=>rfl
 | 1,_=>rfl
 | 2,_=>rfl
 | 3,_=>rfl
def M9(j:∀m∈L,Ja m)(o:Ja l):Cb l∈L.map Cb<->l∈L:=by rw[List.mem_map];exact⟨fun⟨m,i,e⟩=>NT (j m i).2 o.2 e▸i,fun h=>⟨l,h,rfl⟩⟩
theorem Xr(i:∀m∈L,Ja m)(C:Ja l):(L.map Cb).idxOf (Cb l)=L.idxOf l:=by
 induction L with
 | nil=>rfl
 | cons m L J=>
  have t:=J fun x I=>i x (List.mem_cons_of_mem _ I)
  rw[List.map_cons,List.idxOf_cons,List.idxOf_cons,t];by_cases e:m=l
  ·subst e;simp
  ·have p:Cb m≠Cb l:=fun h=>e (NT (i m (List.mem_cons_self ..)).2 C.2 h)
   have j:(m==l)=false:=beq_false_of_ne e;have o:(Cb m==Cb l)=false:=beq_false_of_ne p;rw[j,o]
def DQ.more{o w:nS}{C:Nat}{g:Gz}{I sv:nU}(h:DQ o w C mb tb v g I sv V L D)(P:Ja l)(hn:l ∉ L)(hV:V.length<100000)
  {J:nU} (U:Ah w' C 240 (v.cells++#[I,J,.map (nJ mb),.map (nJ tb)])) (hr:w'.ownsRow o 151 2 J (V.length+1) (V.flatMap E8++[iv,nC nK 0 0]))
  (hi:w'.ownsRow o 256 2 iv l.length (l.flatMap Bf)) (ho:∀(k:Nat) (x:nU×nU) (m:List It),V[k]?=nJ x->L[k]?=nJ m->w'.ownsRow o 256 2 x.1 m.length (m.flatMap Bf))
  (hm:Ie w' mb (V.length+1) (D.put (Cf (Cb l)) (.lit (.int nM (V.length:Nat))))) (a0:Below o o w'):DQ o w' C mb tb v g I J (V++[(iv,nC nK 0 0)]) (L++[l]) (D.put (Cf (Cb l)) (.lit (.int nM (V.length:Nat)))):=by
 have t:Cb l ∉ L.map Cb:=fun hh=>hn ((M9 h.ok P).1 hh)
 refine⟨h.gn,U,?_,by simp[h.len],?_,by simpa using hm,?_,?_,h.b0,a0,mX,?_⟩
 ·simpa [E8] using hr
 ·intro k x m j p
  by_cases t:k<V.length
  ·rw[gL t]at j
   rw[gL (by rw[h.len];exact t)]at p;exact ho k x m j p
  ·have a1:=(sG.1 j).1
   simp at a1;obtain rfl:k=V.length:=by omega
   have R:(V++[(iv,Value.slice nK 0 0)])[V.length]?=nJ (iv,nC nK 0 0):=by simp
   have T:(L++[l])[V.length]?=nJ l:=by rw[<-h.len];simp
   rw[R]at j;rw[T]at p;cases j
   cases p
   exact hi
 ·have:=h.at_.next h.map.isMap t
  rw[lM,h.len]at this;rw[Bz];exact this
 ·intro m p
  rcases mA.1 p with i|i
  ·exact h.ok m i
  ·rw[mS.1 i];exact P
 ·intro x j
  rcases mA.1 j with i|i
  ·exact h.I2 x i
  ·rw[mS.1 i]
def Ft{w:nS}{B b:Nat}{t:TypeId}{n:Nat}(h:w.ownsRow B e size v n xs)(o:Ah w b t cs)(C:t≠e):∀k,v.ownBlock=nJ k->k≠b:=by
 intro k i;rintro rfl;rcases h.2 with⟨rfl,_⟩|⟨g,cap,j,rfl,_,p,_⟩
 ·cases i
 ·cases i
  have l:Ah w g e j:=p;exact Ah.Bh o l C rfl
def Qy{w:nS}{B n2:Nat}{n:Nat}(h:w.ownsRow B e size v n xs)(o:Ie w mb n2 D):v.ownBlock≠nJ mb:=by
 intro j;obtain⟨t,clock,l,_⟩:=o;rcases h.2 with⟨rfl,_⟩|⟨g,cap,p,rfl,_,i,_⟩
 ·cases j
 ·cases j
  rw[l]at i;cases i
def R6{w:nS}{b n2:Nat}{t:TypeId}(h:Ah w b t cs)(j:Ie w mb n2 D):b≠mb:=by rintro rfl;obtain⟨l,clock,i,_⟩:=j;unfold Ah at h;rw[i]at h;cases h
def DQ.mapped{i w w2:nS}{p:Nat}{g:Gz}{t o:nU}(h:DQ i w p mb tb v g t o V L D)(j:w.grownBy w2 (nJ mb)) :
  Ah w2 p 240 (v.cells++#[t,o,.map (nJ mb),.map (nJ tb)])/\w2.ownsRow i 151 2 o V.length (V.flatMap E8)/\(∀(iv:nU) (l:List It),w.ownsRow i 256 2 iv l.length (l.flatMap Bf)->w2.ownsRow i 256 2 iv l.length (l.flatMap Bf))/\Below i i w2/\Aj (·=mb) w w2:=
 ⟨h.Ap.grown j (by have:=R6 h.Ap h.map;simp;exact this),h.rows.kept (row:=nJ mb) j (.inr (Qy h.rows h.map)),fun iv l C=>C.kept (row:=nJ mb) j (.inr (Qy C h.map)),h.below.grown j h.below.size (fun k I=>by cases I;exact h.b0.2),Aj.of_map j⟩
def DQ.added{p w w2 j:nS}{i:Nat}{g:Gz}{bv U:nU}(h:DQ p w i mb tb v g bv U V L D)(hl:Ja l)(hn:l ∉ L)(hV:V.length<100000)(t:w.ownsRow p 256 2 iv l.length (l.flatMap Bf))
  (hg:w.grownBy w2 (nJ mb)) (hm:Ie w2 mb (V.length+1) (D.put (Cf (Cb l)) (.lit (.int nM (V.length:Nat))))) {o:Obj}  {c:Nat} (r1:j.ownsRow p 151 2 (nC A (V.length+1) c) (V.length+1) (V.flatMap E8++[iv,nC nK 0 0]))
  (J:AI p [151] (w2.alloc o) j) (r3:(w2.alloc o).grownBy j U.ownBlock) :
  DQ p (j.setCell (i,5) (nC A (V.length+1) c)) i mb tb v g bv (nC A (V.length+1) c) (V++[(iv,nC nK 0 0)]) (L++[l]) (D.put (Cf (Cb l)) (.lit (.int nM (V.length:Nat))))/\Aj (fun k=>k=i\/k=mb\/U.ownBlock=nJ k) w (j.setCell (i,5) (nC A (V.length+1) c)):=by
 obtain⟨m1,m2,m3,T,m5⟩:=h.mapped hg;obtain⟨AT,cT,AN,cN,AR,cR,rfl,-,-⟩:=h.gn.open_;have C:=J.Ap (m1.alloc o) (.inr mT);have p3:Ie j mb (V.length+1) (D.put (Cf (Cb l)) (.lit (.int nM (V.length:Nat)))):=by obtain⟨es,clock,P,rest⟩:=hm.alloc o;exact⟨es,clock,(J.block mb (aG.1 P).1 (.inr fun cs a3 m hh=>by rw[P]at hh;cases hh)).trans P,rest⟩
 have R:Aj (·=i) j (j.setCell (i,5) (nC A (V.length+1) c)):=Aj.set (X:=(·=i)) (Aj.refl _ j) (p:=(i,5)) (.inr rfl) _;have ho:∀(I:nU) (m:List It),w.ownsRow p 256 2 I m.length (m.flatMap Bf)->(j.setCell (i,5) (nC A (V.length+1) c)).ownsRow p 256 2 I m.length (m.flatMap Bf):=fun I m hj=>by have h3:=J.own ((m3 I m hj).alloc o) (.inr mT);exact R.own h3 (Ft h3 C mT)
 have a2:p.heap.size<=(w2.alloc o).heap.size:=by have:=T.size;simp;omega
 refine⟨h.more hl hn hV (C.AW 5 _) (R.own r1 (Ft r1 C mT)) (ho _ _ t) (fun k x m hx a1=>ho _ _ (h.items k x m hx a1)) (p3.setCell (by have:=R6 C p3;simp;exact fun e=>this e.symm) _) ?_,?_⟩
 ·exact((T.alloc T.size o).trans (J.below a2)).setCell (p:=(i,5)) h.b0.1 _
 ·exact(((m5.mono fun a0 t=>.inr (.inl t)).alloc o).next ((Aj.Cy r3).mono fun a0 t=>.inr (.inr t))).next (R.mono fun a0 t=>.inl t)
def Ov(C w:nS)(i mb tb:Nat)(v:nU)(g:Gz)(o p:nU)(r:Nat×List (List It))(e:Ending)(w':nS):Prop:=
 e=.returned (.int nM (r.1:Nat))/\∃t l j,DQ C w' i mb tb v g o t l r.2 j/\Aj (fun k=>k=i\/k=mb\/p.ownBlock=nJ k) w w'
def RG{w0 w:nS}{bb:Nat}{g:Gz}{bv sv:nU}(h:DQ w0 w bb mb tb v g bv sv V L D)(hr:w.ownsRow w0 256 2 iv l.length (l.flatMap Bf))(C:Ja l)(hV:V.length<100000) :
  () 145 #[(bb,0),iv] w (Ov w0 w bb mb tb v g bv sv (Er L l)):=by
 have HK:=Hd (eA (CK.own hr (by have:=C.1;omega)) C.1 (fun x hx=>by have:=C.2 x hx;omega));obtain⟨Ai,ci,rfl⟩:=BH hr;obtain⟨As,cs,rfl⟩:=BH h.rows;obtain⟨AT,cT,AN,cN,AR,cR,rfl,-,-⟩:=h.gn.open_;have HH:=Hd h;have HR:=Hd hr;have j:=Hd C;clear h hr C;have HD:Hid (Below w w w->True):=Hd fun _=>trivial
 by_cases p:l∈L
 ·have J:Er L l=(L.idxOf l,L):=if_pos p
  rw[J];unfold Ov;have t:=Hd p;clear J p;go_enter func145,ntmps145
  go_wp2_with (
   go_at_call 184;refine HK.mono ?_;rintro e w1 ⟨rfl,o⟩
   have i:=HH.later o;have U:=Tf i.map i.at_ (s:=Cb l) (by rw[IY];have:=j.1;omega);rw[if_pos ((M9 i.ok j).2 t),Xr i.ok j,decide_eq_true ((M9 i.ok j).2 t)]at U;have z6:=Ah.cell i.Ap 6;simp[Value.cells]at z6;have P:=Hd o;have H1:=Hd i;clear o i)
  go_ret;exact⟨rfl,_,_,_,H1,(Aj.AJ P)⟩
 ·have J:Er L l=(L.length,L++[l]):=if_neg p
  rw[J];unfold Ov;have t:=Hd p;clear J p;go_enter func145,ntmps145
  go_wp2_with (
   go_at_call 184;refine HK.mono ?_;rintro e w1 ⟨rfl,o⟩
   have i:=HH.later o;have U:=Tf i.map i.at_ (s:=Cb l) (by rw[IY];have:=j.1;omega);have a2:Cb l ∉ L.map Cb:=fun hh=>t ((M9 i.ok j).1 hh)
   rw[if_neg a2,decide_eq_false a2]at U;have z5:=Ah.cell i.Ap 5;have z6:=Ah.cell i.Ap 6;simp[Value.cells]at z5 z6;have P:=Hd o;have H1:=Hd i;clear o i a2)
  have R:=Hd (H1.later ((Below.refl _ w1).drew));obtain⟨w2,a9,a4,a1⟩:=cQ R.map mR (s:=Cb l) (by rw[IY];have:=j.1;omega) (c:=V.length) mR;have I:=R.mapped a1;have a7:=Hd a4;have a5:=Hd a1;have a0:=Hd I;have e5:=Ah.cell I.1 5;have f5:=Ah.frozen I.1 5;simp[Value.cells]at e5;have aa:=Ah.lt I.1;clear a4 a1 I
  go_region
  clear a9 z5 z6 U;have a8:=R.len;have a3:=AV HR P.drew;have a6:=Hd a3;clear a3;go_wp2_with (
   at_builtin;refine Du aB (.tmp 35) (.tmp 38) rfl rfl (base:=w0.heap.size) (n:=V.length) (m:=1) (N:=V.length+1) (xs:=V.flatMap E8) (news:=[nC Ai l.length ci,nC nK 0 0]) rfl rfl (a0.2.1.alloc _) (Ba.Ap (c:=1) (cs:=[nC Ai l.length ci,nC nK 0 0]) (Ah.new w2 151 _) rfl mZ) rfl mW mR (by have:=a0.2.2.2.1.size;simp;omega) ?_
   intro A3 c3 w3 r1 r2 r3;have HF:=Hd (R.added j t hV a6 a5 a7 r1 r2 r3.1);have T:=r2.Ap (a0.1.alloc _) (.inr mT);have e6:=Ah.cell T 5;have f6:=Ah.frozen T 5;simp[Value.cells]at e6;have ab:=Ah.lt T;clear r1 r2 r3 T)
  go_ret;exact⟨by rw[a8];rfl,_,_,_,HF.1,(Aj.AJ P.drew).next HF.2⟩
structure B5(w:nS)(B g n c:Nat)(R:List (nU×List It)):Prop where
 row:w.ownsRow B 148 1 (nC (g,0) n c) n (R.map (·.1))
 own:∀(k:Nat) (x:nU×List It),R[k]?=nJ x->w.ownsRow B 256 2 x.1 x.2.length (x.2.flatMap Bf)
 apart:∀(i j:Nat) (x y:nU×List It),R[i]?=nJ x->R[j]?=nJ y->i≠j->∀k,x.1.ownBlock=nJ k->y.1.ownBlock≠nJ k
variable{w:nS}{B c g n:Nat}{R:List (nU×List It)}
def B5.len(h:B5 w B g n c R):R.length=n:=by have:=h.row.1;simpa using this
def B5.later(h:B5 w B g n c R)(i:Below w w w'):B5 w' B g n c R:=
 ⟨AV h.row i,fun k x j=>AV (h.own k x j) i,h.apart⟩
def B5.Ay{X:Nat->Prop}(h:B5 w B g n c R)(i:Aj X w w')(o:¬X g)(l:∀(k:Nat) (x:nU×List It),R[k]?=nJ x->∀b,x.1.ownBlock=nJ b->¬X b):B5 w' B g n c R:=
 ⟨i.own h.row (fun k p=>by cases p;exact o),fun k x j=>i.own (h.own k x j) (l k x j),h.apart⟩
def BR(h:w.ownsRow B e size v n xs):∀k,v.ownBlock=nJ k->k<w.heap.size/\B<=k:=by
 intro k i;rcases h.2 with⟨rfl,_⟩|⟨g,cap,o,rfl,j,l,_⟩
 ·cases i
 ·cases i
  exact⟨(aG.1 l).1,j⟩
def B5.Ap(h:B5 w B g n c R):∃i,Ah w g 148 i:=by
 rcases h.row.2 with⟨j,_⟩|⟨o,cap,i,j,p,l,_⟩
 ·cases j
 ·cases j;exact⟨i,l⟩
def B5.put{W o:nS}(h:B5 w B g n c R)(hW:Below w w W){s:Nat}{x:nU×List It}(hx:R[s]?=nJ x){nv:nU}
  (r1:o.ownsRow B 256 2 nv l.length (l.flatMap Bf)) (r2:AI B [256] W o) (r3:W.grownBy o x.1.ownBlock/\(nv.ownBlock=x.1.ownBlock\/nv.ownBlock=nJ W.heap.size)):B5 (o.setCell (g,s) nv) B g n c (R.set s (nv,l)):=by
 have t:=h.later hW;obtain⟨U,a9⟩:=sG.1 hx;have a8:=h.len;obtain⟨a7,a4⟩:=t.Ap;have a2:=r2.Ap a4 (.inr mT);have hc:Aj (·=g) o (o.setCell (g,s) nv):=Aj.set (X:=(·=g)) (Aj.refl _ o) (p:=(g,s)) (.inr rfl) _;have a5:=r2.own t.row (.inr mT);refine⟨?_,?_,?_⟩
 ·have:=Gl a5 s mR nv
  rw[List.map_set];exact this
 ·intro k y j
  by_cases T:k=s
  ·subst T
   rw[tG U]at j;cases j
   exact hc.own r1 (Ft r1 a2 mT)
  ·rw[uG (fun e=>T e.symm)]at j
   have a6:=t.own k y j;have a3:o.ownsRow B 256 2 y.1 y.2.length (y.2.flatMap Bf):=(Aj.Cy r3.1).own a6 (fun b i he=>h.apart s k x y hx j (fun e=>T e.symm) b he i);exact hc.own a3 (Ft a3 a2 mT)
 ·intro a0 a1 a b ha i P k C I
  have key:∀(m:Nat) (y:nU×List It),R[m]?=nJ y->m≠s->∀k,nv.ownBlock=nJ k->y.1.ownBlock≠nJ k:=fun m y j hm k p h2=>by
   rcases r3.2 with e|e
   ·rw[e]at p
    exact h.apart s m x y hx j (fun e=>hm e.symm) k p h2
   ·rw[e]at p
    cases p
    have:=(BR (t.own m y j) _ h2).1;omega
  by_cases J:a0=s
  ·subst J
   rw[tG U]at ha;cases ha
   rw[uG P]at i;exact key a1 b i (fun e=>P e.symm) k C I
  ·rw[uG (fun e=>J e.symm)]at ha
   by_cases hj:a1=s
   ·subst hj
    rw[tG U]at i;cases i
    exact key a0 a ha J k I C
   ·rw[uG (fun e=>hj e.symm)]at i
    exact h.apart a0 a1 a b ha i P k C I
def IS(R:List (List It))(s:Nat)(x:It):List (List It):=R.modify s (·++[x])
def Dx(g:Gz)(R:List (List It))(x:It):List (List It):=if g.next x=0 then R else IS R (g.next x) (x.1,x.2+1)
def XR(R:List (nU×List It))(s:Nat)(x:nU×List It)(j:R[s]?=nJ x)(nv:nU)(l:It):(R.set s (nv,x.2++[l])).map (·.2)=IS (R.map (·.2)) s l:=by
 unfold IS;rw[List.map_set];apply List.ext_getElem?;intro k;rw[List.getElem?_modify,List.getElem?_set];by_cases i:s=k
 ·subst i
  have o:=(sG.1 j).1;have e:=(sG.1 j).2;simp[o,e]
 ·simp[i]
def IX(j:Nat)(R:List (nU×List It))(k:Nat):Prop:=k=j\/∃(i:Nat) (x:nU×List It),R[i]?=nJ x/\x.1.ownBlock=nJ k
def Xf{p W o:nS}{l j:Nat}(I:B5 p l j n c R)(a0:Below w w p)(C:Below p p W)(a3:l<=w.heap.size){s k d:Nat}{t:nU}{i:List It}(J:R[s]?=nJ (t,i)){c3:Nat}
  (r1:o.ownsRow l 256 2 (nC A (i.length+1) c3) (i.length+1) (i.flatMap Bf++Bf (k,d+1))) (T:AI l [256] W o) (U:W.grownBy o t.ownBlock/\((Value.slice A (i.length+1) c3).ownBlock=t.ownBlock\/(Value.slice A (i.length+1) c3).ownBlock=nJ W.heap.size)) :
  ∃P,B5 (o.setCell (j,s) (nC A (i.length+1) c3)) l j n c P/\P.map (·.2)=IS (R.map (·.2)) s (k,d+1)/\Aj (IX j R) w (o.setCell (j,s) (nC A (i.length+1) c3)):=by
 have hg:l<=j:=(BR I.row j rfl).2;obtain⟨a2,a1⟩:=(I.later C).Ap;have a4:=T.Ap a1 (.inr mT);refine⟨_,I.put C J (l:=i++[(k,d+1)]) (by simpa using r1) T U,XR R s (t,i) J _ _,?_⟩;exact(((Aj.AJ a0).next (Aj.AJ C)).next ((Aj.Cy U.1).mono fun a5 hi=>.inr ⟨s,_,J,hi⟩)).set (p:=(j,s)) (.inr (.inl rfl)) _
def lp{bb pb rb I l:Nat}{g:Gz}(aa:BG w bb v g)(U:Ah w pb 236 #[(bb,0)])(ab:Ah w rb 238 #[nC (l,0) n c])(hf:B5 w I l n c R)(hB:I<=w.heap.size)
  {k d:Nat} (hk:k<=g.R.length) (hd:d<=10000) (hn:g.next (k,d)<n) (hl:∀(j:Nat) (x:nU×List It),R[j]?=nJ x->x.2.length<=100000) :
  () 186 #[CH (k,d),(pb,0),(rb,0)] w fun e w'=>e=.returned (.tuple #[])/\∃R',B5 w' I l n c R'/\R'.map (·.2)=Dx g (R.map (·.2)) (k,d)/\Aj (IX l R) w w':=by
 have an:=hf.len;obtain⟨s,hs⟩:∃s,g.next (k,d)=s:=⟨_,rfl⟩
 have p:=Hd (AE w (.cells #[.int nM k,d] 256));have HN:=Hd (fun y (hy:Below w w y)=>OD (aa.later hy) hk (d:=d) mR);have HX:=Hd (Ah.new w 256 #[.int nM k,d]);have HP:=Hd U;have a6:=Hd ab;have HF:=Hd hf;have HL:=Hd hl;have a9:Dx g (R.map (·.2)) (k,d)=if s=0 then R.map (·.2) else IS (R.map (·.2)) s (k,d+1):=by unfold Dx;rw[hs]
 rw[a9];rw[hs]at hn HN;have z0:=(p.cell (p:=(pb,0)) U.lt).trans (U.cell 0);simp at z0;clear aa U ab hf hl hs a9;unfold CH;by_cases h0:s=0
 ·subst h0
  rw[if_pos rfl];go_enter func186,ntmps186
  go_wp2_with (go_at_call 183;refine(HN _ p).mono ?_;rintro e i ⟨rfl,C⟩;have t:=Hd (p.trans (C.mono p.size));clear C)
  go_end0
  exact⟨rfl,R,HF.later t,rfl,Aj.AJ t⟩
 ·rw[if_neg h0]
  obtain⟨⟨xv,P⟩,hx⟩:∃x,R[s]?=nJ x:=⟨_,eG mR⟩
  have ak:=HL _ _ hx;simp only at ak;obtain⟨Ax,cx,ae⟩:=BH (HF.own _ _ hx);simp only at ae;subst ae;have T:=Hd hx;clear hx;have ao:(0:Int)<(s:Int):=by omega
  have ar:(s:Int)<(n:Int):=by omega
  go_enter func186,ntmps186
  go_wp2_with (go_at_call 183;refine(HN _ p).mono ?_;rintro e i ⟨rfl,C⟩;have t:=Hd (p.trans (C.mono p.size));have a2:=Hd (HX.below C mV);clear C)
  have J:=HF.later t;have a1:=Hd J;have a5:=Hd (J.own _ _ T);have a0:=a6.below t (Ah.lt a6);have c0:nQ i (rb,0)=_:=Ah.cell a0 0;have aq:=Ah.lt a0;have c1:nQ i ⟨l,s,nK⟩=nJ (nC Ax P.length cx):=by have h1:=Bb J.row s mR;rw[pG,T.out]at h1;exact h1
  obtain⟨aj,a3⟩:=J.Ap;have al:=Ah.lt a3;have x0:nQ i (w,0)=_:=Ah.cell a2 0;have x1:nQ i (w,1)=_:=Ah.cell a2 1;have aw:=Ah.lt a2;simp only[List.getElem?_toArray,List.getElem?_cons_zero,List.getElem?_cons_succ]at c0 x0 x1;have av:=t.size;have a7:=Hd a0;have a4:=Hd a3;have au:IntKind.i64.wrap ((d:Int)+1)=(d:Int)+1:=IntWalk.i64_in _ mR;clear J a0 a3 z0;generalize ad:w.heap.size=xb at *;have a8:=Hd ad;clear ad;go_region_law (
    refine Fe Pr (.tmp 15) (.tmp 22) ?_ ?_ (base:=I) (n:=P.length) (m:=1) (N:=P.length+1) (v:=nC Ax P.length cx) (src:=nC (i,0) 1 1) (xs:=P.flatMap Bf) (news:=Bf (k,d+1)) ?_ ?_ ?_ ?_ ?_ ?_ ?_ ?_ ?_
    ·rfl
    ·rfl
    ·rfl
    ·rfl
    ·first|exact(AV a5 ((Below.refl _ i).drew)).alloc _|exact AV (a5.alloc _) ((Below.refl _ _).drew)
    ·first|exact O7 (k,d+1) i.drew|exact O7 (k,d+1) i
    ·rfl
    ·unfold maxLen;omega
    ·omega
    ·simp;omega
    intro A3 c3 w3 r1 o r3;have af:=Hd r1;have ag:=Hd o;have ah:=Hd r3;have b3:Ah w3 rb 238 #[nC (l,0) n c]:=by first|exact o.Ap ((a7.drew).alloc _) (.inr mT)|exact o.Ap (Ah.drew (a7.alloc _)) (.inr mT)
    have ai:=Ah.cell b3 0;simp at ai;have g3:Ah w3 l 148 aj:=by first|exact o.Ap ((a4.drew).alloc _) (.inr mT)|exact o.Ap (Ah.drew (a4.alloc _)) (.inr mT)
    have f3:=Ah.frozen g3 s;have o3:w3.ownsRow I 148 1 (nC (l,0) n c) n (R.map (·.1)):=by first|exact o.own ((AV a1.row ((Below.refl _ i).drew)).alloc _) (.inr mT)|exact o.own (AV (a1.row.alloc _) ((Below.refl _ _).drew)) (.inr mT)
    have q3:=Bb o3 s mR;rw[pG,T.out]at q3;simp only[Option.map_some]at q3;clear r1 o r3 b3 g3 o3)
  all_goals go_end0
  all_goals refine⟨rfl,?_⟩
  all_goals refine Xf a1 (by rw[a8.out];exact t) ?_ (by rw[a8.out];exact hB) T af ag ah
  all_goals exact⟨rfl,rfl,rfl,mV,fun k hk=>Below.heap_alloc i _ _ hk⟩
namespace Gz
def Es(g:Gz)(bg:List (List It))(p:List (List It)×List Nat)(x:It):List (List It)×List Nat:=
 let s:=g.next x
 if s∈p.2\/g.BK s=false then(Dx g p.1 x,p.2) else((bg.getD s []).foldl (Dx g) (Dx g p.1 x),s::p.2)
def GK(g:Gz)(bg:List (List It))(l:List It):List (List It):=((l.foldl (g.Es bg) (List.replicate (g.top+1) [],[])).1).map DA
end Gz
def EX(m:Nat)(R:List (List It)):Prop:=∀l∈R,l.length<=m
theorem EX.move{m:Nat}{R:List (List It)}(h:EX m R)(g:Gz)(x:It):EX (m+1) (Dx g R x):=by
 unfold Dx;split
 ·exact fun l o=>Nat.le_succ_of_le (h l o)
 ·intro l o
  obtain⟨i,j⟩:=List.mem_iff_getElem?.1 o;unfold IS at j;rw[List.getElem?_modify]at j;cases p:R[i]? with
  | none=>rw[p]at j;cases j
  | some r=>
   rw[p]at j;have t:=h r (mG p);simp only[Option.map_eq_map,Option.map_some,Option.some.injEq]at j;subst j;split
   ·simp;exact t
   ·omega
theorem EX.Ls{m:Nat}{R:List (List It)}(h:EX m R)(g:Gz):∀l:List It,EX (m+l.length) (l.foldl (Dx g) R)
 | []=>h
 | x::l=>by have:=EX.Ls (h.move g x) g l;rw[List.foldl_cons,List.length_cons,show m+(l.length+1)=m+1+l.length by omega];exact this
