/- The builder's states. -/
import Derived.Test.YtlogpnoioimhjaaGreatDoorXak
import Derived.Test.YtlogpnoioimhjaaGreatDoorXal
set_option linter.all false
set_option maxRecDepth 100000
set_option maxHeartbeats 16000000
namespace Go.Proofs.YtlogpnoioimhjaaGreatDoor
open Go.RowKit Go.Proofs.Tryz
variable{w':World}{iv:Value}{e:TypeId}{size:Nat}{xs:List Value}{cs:Array Value}{A:Option Addr}
def Zz:El Tryz.prog 110 125 2 48:=El.of (z:=.agg #[.slice none 0 0,.slice none 0 0]) underlying110 (by kernel_rfl) rfl (by decide)
def Fj(x:Value×Value):List Value:=[x.1,x.2]
def EK(L:List (List It))(l:List It):Nat×List (List It):=if l∈L then(L.idxOf l,L) else(L.length,L++[l])
def Jv(l:List It):Prop:=l.length<=100000/\∀x∈l,x.1<65536/\x.2<256
structure D6(w0 w:World)(bb mb tb:Nat)(v:Value)(g:Gz)(bv sv:Value)(V:List (Value×Value))(L:List (List It))(D:DataW Unit):Prop where
 gn:GN w0 v g
 Ap:Ah w bb 195 (v.cells++#[bv,sv,.map (some mb),.map (some tb)])
 rows:w.ownsRow w0 125 2 sv V.length (V.flatMap Fj)
 len:L.length=V.length
 items:∀(k:Nat) (x:Value×Value) (l:List It),V[k]?=some x->L[k]?=some l->w.ownsRow w0 213 2 x.1 l.length (l.flatMap Bc)
 map:H0 w mb V.length D
 at_:Jh D (L.map Cc)
 ok:∀l∈L,Jv l
 b0:w0.heap.size<=bb/\w0.heap.size<=mb
 below:Below w0 w0 w
 small:V.length<=100000
 JA:∀x∈V,x.2=.slice none 0 0
variable{mb tb:Nat}{v:Value}{V:List (Value×Value)}{L:List (List It)}{D:DataW Unit}{l:List It}
def D6.later{t w:World}{j:Nat}{g:Gz}{o p:Value}(h:D6 t w j mb tb v g o p V L D)(i:Below w w w'):D6 t w' j mb tb v g o p V L D:=
 ⟨h.gn,(i.block j (Ah.lt h.Ap)).trans h.Ap,AS h.rows i,h.len,fun k x l J I=>AS (h.items k x l J I) i,h.map.kept (row:=none) ⟨i.os,i.tape,i.output,i.size,fun k C _=>i.block k C⟩ (by simp),h.at_,h.ok,h.b0,h.below.trans (i.mono h.below.size),h.small,h.JA⟩
theorem D6.bg{t w:World}{i:Nat}{g:Gz}{l p:Value}(h:D6 t w i mb tb v g l p V L D):BG w i v g:=by
 refine⟨h.gn.later h.below,fun j o=>?_⟩;obtain⟨J,T,C,P,I,R,rfl,-,-⟩:=h.gn.open_;rw[h.Ap.cell]
 match j,o with
 | 0,_=>rfl
 | 1,_=>rfl
 | 2,_=>rfl
 | 3,_=>rfl
def MF(j:∀m∈L,Jv m)(o:Jv l):Cc l∈L.map Cc<->l∈L:=by rw[List.mem_map];exact⟨fun⟨m,i,e⟩=>NH (j m i).2 o.2 e▸i,fun h=>⟨l,h,rfl⟩⟩
theorem cW(i:∀m∈L,Jv m)(C:Jv l):(L.map Cc).idxOf (Cc l)=L.idxOf l:=by
 induction L with
 | nil=>rfl
 | cons m L J=>
  have t:=J fun x I=>i x (List.mem_cons_of_mem _ I)
  rw[List.map_cons,List.idxOf_cons,List.idxOf_cons,t];by_cases e:m=l
  ·subst e;simp
  ·have p:Cc m≠Cc l:=fun h=>e (NH (i m (List.mem_cons_self ..)).2 C.2 h)
   have j:(m==l)=false:=beq_false_of_ne e;have o:(Cc m==Cc l)=false:=beq_false_of_ne p;rw[j,o]
def D6.more{o w:World}{C:Nat}{g:Gz}{I sv:Value}(h:D6 o w C mb tb v g I sv V L D)(P:Jv l)(hn:l ∉ L)(hV:V.length<100000)
  {J:Value} (U:Ah w' C 195 (v.cells++#[I,J,.map (some mb),.map (some tb)])) (hr:w'.ownsRow o 125 2 J (V.length+1) (V.flatMap Fj++[iv,.slice none 0 0]))
  (hi:w'.ownsRow o 213 2 iv l.length (l.flatMap Bc)) (ho:∀(k:Nat) (x:Value×Value) (m:List It),V[k]?=some x->L[k]?=some m->w'.ownsRow o 213 2 x.1 m.length (m.flatMap Bc))
  (hm:H0 w' mb (V.length+1) (D.put (Cf (Cc l)) (.lit (.int .i64 (V.length:Nat))))) (a0:Below o o w'):D6 o w' C mb tb v g I J (V++[(iv,.slice none 0 0)]) (L++[l]) (D.put (Cf (Cc l)) (.lit (.int .i64 (V.length:Nat)))):=by
 have t:Cc l ∉ L.map Cc:=fun hh=>hn ((MF h.ok P).1 hh)
 refine⟨h.gn,U,?_,by simp[h.len],?_,by simpa using hm,?_,?_,h.b0,a0,by simp;omega,?_⟩
 ·simpa [Fj] using hr
 ·intro k x m j p
  by_cases t:k<V.length
  ·rw[gL t]at j
   rw[gL (by rw[h.len];exact t)]at p;exact ho k x m j p
  ·have a1:=(sG.1 j).1
   simp at a1;obtain rfl:k=V.length:=by omega
   have R:(V++[(iv,Value.slice none 0 0)])[V.length]?=some (iv,.slice none 0 0):=by simp
   have T:(L++[l])[V.length]?=some l:=by rw[<-h.len];simp
   rw[R]at j;rw[T]at p;cases j
   cases p
   exact hi
 ·have:=h.at_.next h.map.isMap t
  rw[lM,h.len]at this;rw[By];exact this
 ·intro m p
  rcases mA.1 p with i|i
  ·exact h.ok m i
  ·rw[mS.1 i];exact P
 ·intro x j
  rcases mA.1 j with i|i
  ·exact h.JA x i
  ·rw[mS.1 i]
def FL{w:World}{B b:Nat}{t:TypeId}{n:Nat}(h:w.ownsRow B e size v n xs)(o:Ah w b t cs)(C:t≠e):∀k,v.ownBlock=some k->k≠b:=by
 intro k i;rintro rfl;rcases h.2 with⟨rfl,_⟩|⟨g,cap,j,rfl,_,p,_⟩
 ·cases i
 ·cases i
  have l:Ah w g e j:=p;exact Ah.Bf o l C rfl
def PB{w:World}{B p:Nat}{n:Nat}(h:w.ownsRow B e size v n xs)(o:H0 w mb p D):v.ownBlock≠some mb:=by
 intro j;obtain⟨C,clock,l,_⟩:=o;rcases h.2 with⟨rfl,_⟩|⟨g,cap,t,rfl,_,i,_⟩
 ·cases j
 ·cases j
  rw[l]at i;cases i
def QZ{w:World}{b l:Nat}{t:TypeId}(h:Ah w b t cs)(j:H0 w mb l D):b≠mb:=by rintro rfl;obtain⟨o,clock,i,_⟩:=j;unfold Ah at h;rw[i]at h;cases h
def D6.mapped{i w w2:World}{p:Nat}{g:Gz}{t o:Value}(h:D6 i w p mb tb v g t o V L D)(j:w.grownBy w2 (some mb)) :
  Ah w2 p 195 (v.cells++#[t,o,.map (some mb),.map (some tb)])/\w2.ownsRow i 125 2 o V.length (V.flatMap Fj)/\(∀(iv:Value) (l:List It),w.ownsRow i 213 2 iv l.length (l.flatMap Bc)->w2.ownsRow i 213 2 iv l.length (l.flatMap Bc))/\Below i i w2/\Aj (·=mb) w w2:=
 ⟨h.Ap.grown j (by have:=QZ h.Ap h.map;simp;exact this),h.rows.kept (row:=some mb) j (.inr (PB h.rows h.map)),fun iv l C=>C.kept (row:=some mb) j (.inr (PB C h.map)),h.below.grown j h.below.size (fun k I=>by cases I;exact h.b0.2),Aj.of_map j⟩
def D6.added{p w w2 j:World}{i:Nat}{g:Gz}{bv U:Value}(h:D6 p w i mb tb v g bv U V L D)(hl:Jv l)(hn:l ∉ L)(hV:V.length<100000)(t:w.ownsRow p 213 2 iv l.length (l.flatMap Bc))
  (hg:w.grownBy w2 (some mb)) (hm:H0 w2 mb (V.length+1) (D.put (Cf (Cc l)) (.lit (.int .i64 (V.length:Nat))))) {o:Obj}  {c:Nat} (r1:j.ownsRow p 125 2 (.slice A (V.length+1) c) (V.length+1) (V.flatMap Fj++[iv,.slice none 0 0]))
  (J:AI p [125] (w2.alloc o) j) (r3:(w2.alloc o).grownBy j U.ownBlock) :
  D6 p (j.setCell (i,5) (.slice A (V.length+1) c)) i mb tb v g bv (.slice A (V.length+1) c) (V++[(iv,.slice none 0 0)]) (L++[l]) (D.put (Cf (Cc l)) (.lit (.int .i64 (V.length:Nat))))/\Aj (fun k=>k=i\/k=mb\/U.ownBlock=some k) w (j.setCell (i,5) (.slice A (V.length+1) c)):=by
 obtain⟨m1,m2,m3,T,m5⟩:=h.mapped hg;obtain⟨AT,cT,AN,cN,AR,cR,rfl,-,-⟩:=h.gn.open_;have C:=J.Ap (m1.alloc o) (.inr (by decide));have p3:H0 j mb (V.length+1) (D.put (Cf (Cc l)) (.lit (.int .i64 (V.length:Nat)))):=by obtain⟨es,clock,P,rest⟩:=hm.alloc o;exact⟨es,clock,(J.block mb (aG.1 P).1 (.inr fun cs a3 m hh=>by rw[P]at hh;cases hh)).trans P,rest⟩
 have R:Aj (·=i) j (j.setCell (i,5) (.slice A (V.length+1) c)):=Aj.set (X:=(·=i)) (Aj.refl _ j) (p:=(i,5)) (.inr rfl) _;have ho:∀(I:Value) (m:List It),w.ownsRow p 213 2 I m.length (m.flatMap Bc)->(j.setCell (i,5) (.slice A (V.length+1) c)).ownsRow p 213 2 I m.length (m.flatMap Bc):=fun I m hj=>by have h3:=J.own ((m3 I m hj).alloc o) (.inr (by decide));exact R.own h3 (FL h3 C (by decide))
 have a2:p.heap.size<=(w2.alloc o).heap.size:=by have:=T.size;simp;omega
 refine⟨h.more hl hn hV (C.Be 5 _) (R.own r1 (FL r1 C (by decide))) (ho _ _ t) (fun k x m hx a1=>ho _ _ (h.items k x m hx a1)) (p3.setCell (by have:=QZ C p3;simp;exact fun e=>this e.symm) _) ?_,?_⟩
 ·exact((T.alloc T.size o).trans (J.below a2)).setCell (p:=(i,5)) h.b0.1 _
 ·exact(((m5.mono fun a0 t=>.inr (.inl t)).alloc o).next ((Aj.CE r3).mono fun a0 t=>.inr (.inr t))).next (R.mono fun a0 t=>.inl t)
def Nu(C w:World)(i mb tb:Nat)(v:Value)(g:Gz)(o p:Value)(r:Nat×List (List It))(e:Ending)(w':World):Prop:=
 e=.returned (.int .i64 (r.1:Nat))/\∃t l j,D6 C w' i mb tb v g o t l r.2 j/\Aj (fun k=>k=i\/k=mb\/p.ownBlock=some k) w w'
def Ul{w0 w:World}{bb:Nat}{g:Gz}{bv sv:Value}(h:D6 w0 w bb mb tb v g bv sv V L D)(hr:w.ownsRow w0 213 2 iv l.length (l.flatMap Bc))(C:Jv l)(hV:V.length<100000) :
  () 100 #[(bb,0),iv] w (Nu w0 w bb mb tb v g bv sv (EK L l)):=by
 have HK:=Hd (kH (CM.own hr (by have:=C.1;omega)) C.1 (fun x hx=>by have:=C.2 x hx;omega));obtain⟨Ai,ci,rfl⟩:=BF hr;obtain⟨As,cs,rfl⟩:=BF h.rows;obtain⟨AT,cT,AN,cN,AR,cR,rfl,-,-⟩:=h.gn.open_;have HH:=Hd h;have HR:=Hd hr;have j:=Hd C;clear h hr C;have HD:Hid (Below w w w->True):=Hd fun _=>trivial
 by_cases p:l∈L
 ·have J:EK L l=(L.idxOf l,L):=if_pos p
  rw[J];unfold Nu;have t:=Hd p;clear J p;go_enter func100,ntmps100
  go_wp2_with (
   go_at_call 149;refine HK.mono ?_;rintro e w1 ⟨rfl,o⟩
   have i:=HH.later o;have U:=Tg i.map i.at_ (s:=Cc l) (by rw[Jp];have:=j.1;omega);rw[if_pos ((MF i.ok j).2 t),cW i.ok j,decide_eq_true ((MF i.ok j).2 t)]at U;have z6:=Ah.cell i.Ap 6;simp[Value.cells]at z6;have P:=Hd o;have H1:=Hd i;clear o i)
  go_ret;exact⟨rfl,_,_,_,H1,(Aj.AJ P)⟩
 ·have J:EK L l=(L.length,L++[l]):=if_neg p
  rw[J];unfold Nu;have t:=Hd p;clear J p;go_enter func100,ntmps100
  go_wp2_with (
   go_at_call 149;refine HK.mono ?_;rintro e w1 ⟨rfl,o⟩
   have i:=HH.later o;have U:=Tg i.map i.at_ (s:=Cc l) (by rw[Jp];have:=j.1;omega);have a2:Cc l ∉ L.map Cc:=fun hh=>t ((MF i.ok j).1 hh)
   rw[if_neg a2,decide_eq_false a2]at U;have z5:=Ah.cell i.Ap 5;have z6:=Ah.cell i.Ap 6;simp[Value.cells]at z5 z6;have P:=Hd o;have H1:=Hd i;clear o i a2)
  have R:=Hd (H1.later ((Below.refl _ w1).drew));obtain⟨w2,a9,a4,a1⟩:=kT R.map (by omega) (s:=Cc l) (by rw[Jp];have:=j.1;omega) (c:=V.length) (by omega);have I:=R.mapped a1;have a7:=Hd a4;have a5:=Hd a1;have a0:=Hd I;have e5:=Ah.cell I.1 5;have f5:=Ah.frozen I.1 5;simp[Value.cells]at e5;have aa:=Ah.lt I.1;clear a4 a1 I
  go_region
  clear a9 z5 z6 U;have a8:=R.len;have a3:=AS HR P.drew;have a6:=Hd a3;clear a3;go_wp2_with (
   at_builtin;refine Dc Zz (.tmp 35) (.tmp 38) rfl rfl (base:=w0.heap.size) (n:=V.length) (m:=1) (N:=V.length+1) (xs:=V.flatMap Fj) (news:=[.slice Ai l.length ci,.slice none 0 0]) rfl rfl (a0.2.1.alloc _) (AY.Ap (c:=1) (cs:=[.slice Ai l.length ci,.slice none 0 0]) (Ah.new w2 125 _) rfl (by simp[Value.oneCell'])) rfl (by unfold maxLen;omega) (by omega) (by have:=a0.2.2.2.1.size;simp;omega) ?_
   intro A3 c3 w3 r1 r2 r3;have HF:=Hd (R.added j t hV a6 a5 a7 r1 r2 r3.1);have T:=r2.Ap (a0.1.alloc _) (.inr (by decide));have e6:=Ah.cell T 5;have f6:=Ah.frozen T 5;simp[Value.cells]at e6;have ab:=Ah.lt T;clear r1 r2 r3 T)
  go_ret;exact⟨by rw[a8];rfl,_,_,_,HF.1,(Aj.AJ P.drew).next HF.2⟩
structure B6(w:World)(B g n c:Nat)(R:List (Value×List It)):Prop where
 row:w.ownsRow B 122 1 (.slice (g,0) n c) n (R.map (·.1))
 own:∀(k:Nat) (x:Value×List It),R[k]?=some x->w.ownsRow B 213 2 x.1 x.2.length (x.2.flatMap Bc)
 apart:∀(i j:Nat) (x y:Value×List It),R[i]?=some x->R[j]?=some y->i≠j->∀k,x.1.ownBlock=some k->y.1.ownBlock≠some k
variable{w:World}{B c g n:Nat}{R:List (Value×List It)}
def B6.len(h:B6 w B g n c R):R.length=n:=by have:=h.row.1;simpa using this
def B6.later(h:B6 w B g n c R)(i:Below w w w'):B6 w' B g n c R:=
 ⟨AS h.row i,fun k x j=>AS (h.own k x j) i,h.apart⟩
def B6.AE{X:Nat->Prop}(h:B6 w B g n c R)(i:Aj X w w')(o:¬X g)(l:∀(k:Nat) (x:Value×List It),R[k]?=some x->∀b,x.1.ownBlock=some b->¬X b):B6 w' B g n c R:=
 ⟨i.own h.row (fun k p=>by cases p;exact o),fun k x j=>i.own (h.own k x j) (l k x j),h.apart⟩
def BY(h:w.ownsRow B e size v n xs):∀k,v.ownBlock=some k->k<w.heap.size/\B<=k:=by
 intro k i;rcases h.2 with⟨rfl,_⟩|⟨g,cap,o,rfl,j,l,_⟩
 ·cases i
 ·cases i
  exact⟨(aG.1 l).1,j⟩
def B6.Ap(h:B6 w B g n c R):∃i,Ah w g 122 i:=by
 rcases h.row.2 with⟨j,_⟩|⟨o,cap,i,j,p,l,_⟩
 ·cases j
 ·cases j;exact⟨i,l⟩
def B6.put{W o:World}(h:B6 w B g n c R)(hW:Below w w W){s:Nat}{x:Value×List It}(hx:R[s]?=some x){nv:Value}
  (r1:o.ownsRow B 213 2 nv l.length (l.flatMap Bc)) (r2:AI B [213] W o) (r3:W.grownBy o x.1.ownBlock/\(nv.ownBlock=x.1.ownBlock\/nv.ownBlock=some W.heap.size)):B6 (o.setCell (g,s) nv) B g n c (R.set s (nv,l)):=by
 have t:=h.later hW;obtain⟨U,a9⟩:=sG.1 hx;have a8:=h.len;obtain⟨a7,a4⟩:=t.Ap;have a2:=r2.Ap a4 (.inr (by decide));have hc:Aj (·=g) o (o.setCell (g,s) nv):=Aj.set (X:=(·=g)) (Aj.refl _ o) (p:=(g,s)) (.inr rfl) _;have a5:=r2.own t.row (.inr (by decide));refine⟨?_,?_,?_⟩
 ·have:=Gu a5 s (by omega) nv
  rw[List.map_set];exact this
 ·intro k y j
  by_cases T:k=s
  ·subst T
   rw[tG U]at j;cases j
   exact hc.own r1 (FL r1 a2 (by decide))
  ·rw[uG (fun e=>T e.symm)]at j
   have a6:=t.own k y j;have a3:o.ownsRow B 213 2 y.1 y.2.length (y.2.flatMap Bc):=(Aj.CE r3.1).own a6 (fun b i he=>h.apart s k x y hx j (fun e=>T e.symm) b he i);exact hc.own a3 (FL a3 a2 (by decide))
 ·intro a0 a1 a b ha i P k C I
  have key:∀(m:Nat) (y:Value×List It),R[m]?=some y->m≠s->∀k,nv.ownBlock=some k->y.1.ownBlock≠some k:=fun m y j hm k p h2=>by
   rcases r3.2 with e|e
   ·rw[e]at p
    exact h.apart s m x y hx j (fun e=>hm e.symm) k p h2
   ·rw[e]at p
    cases p
    have:=(BY (t.own m y j) _ h2).1;omega
  by_cases J:a0=s
  ·subst J
   rw[tG U]at ha;cases ha
   rw[uG P]at i;exact key a1 b i (fun e=>P e.symm) k C I
  ·rw[uG (fun e=>J e.symm)]at ha
   by_cases hj:a1=s
   ·subst hj
    rw[tG U]at i;cases i
    exact key a0 a ha J k I C
   ·rw[uG (fun e=>hj e.symm)]at i
    exact h.apart a0 a1 a b ha i P k C I
def IK(R:List (List It))(s:Nat)(x:It):List (List It):=R.modify s (·++[x])
def Dv(g:Gz)(R:List (List It))(x:It):List (List It):=if g.next x=0 then R else IK R (g.next x) (x.1,x.2+1)
def fM(R:List (Value×List It))(s:Nat)(x:Value×List It)(j:R[s]?=some x)(nv:Value)(l:It):(R.set s (nv,x.2++[l])).map (·.2)=IK (R.map (·.2)) s l:=by
 unfold IK;rw[List.map_set];apply List.ext_getElem?;intro k;rw[List.getElem?_modify,List.getElem?_set];by_cases i:s=k
 ·subst i
  have o:=(sG.1 j).1;have e:=(sG.1 j).2;simp[o,e]
 ·simp[i]
def IX(j:Nat)(R:List (Value×List It))(k:Nat):Prop:=k=j\/∃(i:Nat) (x:Value×List It),R[i]?=some x/\x.1.ownBlock=some k
def VU{p W o:World}{l j:Nat}(I:B6 p l j n c R)(a0:Below w w p)(C:Below p p W)(a3:l<=w.heap.size){s k d:Nat}{t:Value}{i:List It}(J:R[s]?=some (t,i)){c3:Nat}
  (r1:o.ownsRow l 213 2 (.slice A (i.length+1) c3) (i.length+1) (i.flatMap Bc++Bc (k,d+1))) (T:AI l [213] W o) (U:W.grownBy o t.ownBlock/\((Value.slice A (i.length+1) c3).ownBlock=t.ownBlock\/(Value.slice A (i.length+1) c3).ownBlock=some W.heap.size)) :
  ∃P,B6 (o.setCell (j,s) (.slice A (i.length+1) c3)) l j n c P/\P.map (·.2)=IK (R.map (·.2)) s (k,d+1)/\Aj (IX j R) w (o.setCell (j,s) (.slice A (i.length+1) c3)):=by
 have hg:l<=j:=(BY I.row j rfl).2;obtain⟨a2,a1⟩:=(I.later C).Ap;have a4:=T.Ap a1 (.inr (by decide));refine⟨_,I.put C J (l:=i++[(k,d+1)]) (by simpa using r1) T U,fM R s (t,i) J _ _,?_⟩;exact(((Aj.AJ a0).next (Aj.AJ C)).next ((Aj.CE U.1).mono fun a5 hi=>.inr ⟨s,_,J,hi⟩)).set (p:=(j,s)) (.inr (.inl rfl)) _
def YB{bb pb rb I l:Nat}{g:Gz}(aa:BG w bb v g)(U:Ah w pb 191 #[(bb,0)])(ab:Ah w rb 193 #[.slice (l,0) n c])(hf:B6 w I l n c R)(hB:I<=w.heap.size)
  {k d:Nat} (hk:k<=g.R.length) (hd:d<=10000) (hn:g.next (k,d)<n) (hl:∀(j:Nat) (x:Value×List It),R[j]?=some x->x.2.length<=100000) :
  () 151 #[CH (k,d),(pb,0),(rb,0)] w fun e w'=>e=.returned (.tuple #[])/\∃R',B6 w' I l n c R'/\R'.map (·.2)=Dv g (R.map (·.2)) (k,d)/\Aj (IX l R) w w':=by
 have an:=hf.len;obtain⟨s,hs⟩:∃s,g.next (k,d)=s:=⟨_,rfl⟩
 have p:=Hd (AG w (.cells #[.int .i64 k,d] 213));have HN:=Hd (fun y (hy:Below w w y)=>N9 (aa.later hy) hk (d:=d) (by omega));have HX:=Hd (Ah.new w 213 #[.int .i64 k,d]);have HP:=Hd U;have a6:=Hd ab;have HF:=Hd hf;have HL:=Hd hl;have a9:Dv g (R.map (·.2)) (k,d)=if s=0 then R.map (·.2) else IK (R.map (·.2)) s (k,d+1):=by unfold Dv;rw[hs]
 rw[a9];rw[hs]at hn HN;have z0:=(p.cell (p:=(pb,0)) U.lt).trans (U.cell 0);simp at z0;clear aa U ab hf hl hs a9;unfold CH;by_cases h0:s=0
 ·subst h0
  rw[if_pos rfl];go_enter func151,ntmps151
  go_wp2_with (go_at_call 148;refine(HN _ p).mono ?_;rintro e i ⟨rfl,C⟩;have t:=Hd (p.trans (C.mono p.size));clear C)
  go_end0
  exact⟨rfl,R,HF.later t,rfl,Aj.AJ t⟩
 ·rw[if_neg h0]
  obtain⟨⟨xv,P⟩,hx⟩:∃x,R[s]?=some x:=⟨_,eG (by omega)⟩
  have ak:=HL _ _ hx;simp only at ak;obtain⟨Ax,cx,ae⟩:=BF (HF.own _ _ hx);simp only at ae;subst ae;have T:=Hd hx;clear hx;have ao:(0:Int)<(s:Int):=by omega
  have ar:(s:Int)<(n:Int):=by omega
  go_enter func151,ntmps151
  go_wp2_with (go_at_call 148;refine(HN _ p).mono ?_;rintro e i ⟨rfl,C⟩;have t:=Hd (p.trans (C.mono p.size));have a2:=Hd (HX.below C (by simp));clear C)
  have J:=HF.later t;have a1:=Hd J;have a5:=Hd (J.own _ _ T);have a0:=a6.below t (Ah.lt a6);have c0:i.cell? (rb,0)=_:=Ah.cell a0 0;have aq:=Ah.lt a0;have c1:i.cell? ⟨l,s,none⟩=some (.slice Ax P.length cx):=by have h1:=Bh J.row s (by omega);rw[pG,T.out]at h1;exact h1
  obtain⟨aj,a3⟩:=J.Ap;have al:=Ah.lt a3;have x0:i.cell? (w,0)=_:=Ah.cell a2 0;have x1:i.cell? (w,1)=_:=Ah.cell a2 1;have aw:=Ah.lt a2;simp only[List.getElem?_toArray,List.getElem?_cons_zero,List.getElem?_cons_succ]at c0 x0 x1;have av:=t.size;have a7:=Hd a0;have a4:=Hd a3;have au:IntKind.i64.wrap ((d:Int)+1)=(d:Int)+1:=IntWalk.i64_in _ (by omega);clear J a0 a3 z0;generalize ad:w.heap.size=xb at *;have a8:=Hd ad;clear ad;go_region_law (
    refine EG O8 (.tmp 15) (.tmp 22) ?_ ?_ (base:=I) (n:=P.length) (m:=1) (N:=P.length+1) (v:=.slice Ax P.length cx) (src:=.slice (i,0) 1 1) (xs:=P.flatMap Bc) (news:=Bc (k,d+1)) ?_ ?_ ?_ ?_ ?_ ?_ ?_ ?_ ?_
    ·rfl
    ·rfl
    ·rfl
    ·rfl
    ·first|exact(AS a5 ((Below.refl _ i).drew)).alloc _|exact AS (a5.alloc _) ((Below.refl _ _).drew)
    ·first|exact O0 (k,d+1) i.drew|exact O0 (k,d+1) i
    ·rfl
    ·unfold maxLen;omega
    ·omega
    ·simp;omega
    intro A3 c3 w3 r1 o r3;have af:=Hd r1;have ag:=Hd o;have ah:=Hd r3;have b3:Ah w3 rb 193 #[.slice (l,0) n c]:=by first|exact o.Ap ((a7.drew).alloc _) (.inr (by decide))|exact o.Ap (Ah.drew (a7.alloc _)) (.inr (by decide))
    have ai:=Ah.cell b3 0;simp at ai;have g3:Ah w3 l 122 aj:=by first|exact o.Ap ((a4.drew).alloc _) (.inr (by decide))|exact o.Ap (Ah.drew (a4.alloc _)) (.inr (by decide))
    have f3:=Ah.frozen g3 s;have o3:w3.ownsRow I 122 1 (.slice (l,0) n c) n (R.map (·.1)):=by first|exact o.own ((AS a1.row ((Below.refl _ i).drew)).alloc _) (.inr (by decide))|exact o.own (AS (a1.row.alloc _) ((Below.refl _ _).drew)) (.inr (by decide))
    have q3:=Bh o3 s (by omega);rw[pG,T.out]at q3;simp only[Option.map_some]at q3;clear r1 o r3 b3 g3 o3)
  all_goals go_end0
  all_goals refine⟨rfl,?_⟩
  all_goals refine VU a1 (by rw[a8.out];exact t) ?_ (by rw[a8.out];exact hB) T af ag ah
  all_goals exact⟨rfl,rfl,rfl,by simp,fun k hk=>Below.heap_alloc i _ _ hk⟩
namespace Gz
def Ey(g:Gz)(bg:List (List It))(p:List (List It)×List Nat)(x:It):List (List It)×List Nat:=
 let s:=g.next x
 if s∈p.2\/g.BV s=false then(Dv g p.1 x,p.2) else((bg.getD s []).foldl (Dv g) (Dv g p.1 x),s::p.2)
def GQ(g:Gz)(bg:List (List It))(l:List It):List (List It):=((l.foldl (g.Ey bg) (List.replicate (g.top+1) [],[])).1).map DB
end Gz
def E7(m:Nat)(R:List (List It)):Prop:=∀l∈R,l.length<=m
theorem E7.move{m:Nat}{R:List (List It)}(h:E7 m R)(g:Gz)(x:It):E7 (m+1) (Dv g R x):=by
 unfold Dv;split
 ·exact fun l o=>Nat.le_succ_of_le (h l o)
 ·intro l o
  obtain⟨i,j⟩:=List.mem_iff_getElem?.1 o;unfold IK at j;rw[List.getElem?_modify]at j;cases p:R[i]? with
  | none=>rw[p]at j;cases j
  | some r=>
   rw[p]at j;have t:=h r (mG p);simp only[Option.map_eq_map,Option.map_some,Option.some.injEq]at j;subst j;split
   ·simp;exact t
   ·omega
theorem E7.Lv{m:Nat}{R:List (List It)}(h:E7 m R)(g:Gz):∀l:List It,E7 (m+l.length) (l.foldl (Dv g) R)
 | []=>h
 | x::l=>by have:=E7.Lv (h.move g x) g l;rw[List.foldl_cons,List.length_cons,show m+(l.length+1)=m+1+l.length by omega];exact this
end Go.Proofs.YtlogpnoioimhjaaGreatDoor
