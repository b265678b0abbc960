/- The builder's states. Rows of items. The closure that moves an item into its. What steps makes. -/
import Derived.Test.YthaacmablcpdfaaGreatDoorYak
import Derived.Test.YthaacmablcpdfaaGreatDoorYal
import Derived.Test.YthaacmablcpdfaaGreatDoorYn
set_option linter.unusedVariables false
set_option maxRecDepth 100000
set_option maxHeartbeats 16000000
namespace Go.Proofs.YthaacmablcpdfaaGreatDoor
open Go.RowKit
theorem Xs:El Tryz.prog 57 71 2 48:=El.of (z:=.agg #[.slice none 0 0,.slice none 0 0]) Tryz.underlying57 (by kernel_rfl) rfl (by decide)
def Fa(x:Value×Value):List Value:=[x.1,x.2]
def Ew(L:List (List It))(l:List It):Nat×List (List It):=if l∈L then(L.idxOf l,L) else(L.length,L++[l])
def Jh(l:List It):Prop:=l.length<=100000/\∀x∈l,x.1<65536/\x.2<256
structure D1(w0 w:World)(bb mb tb:Nat)(v:Value)(g:Gz)(bv sv:Value)(V:List (Value×Value))(L:List (List It))(D:DataW Unit):Prop where
 gn:GN w0 v g
 An:Ah w bb 179 (v.cells++#[bv,sv,.map (some mb),.map (some tb)])
 rows:w.ownsRow w0.heap.size 71 2 sv V.length (V.flatMap Fa)
 len:L.length=V.length
 items:∀(k:Nat) (x:Value×Value) (l:List It),V[k]?=some x->L[k]?=some l->w.ownsRow w0.heap.size 194 2 x.1 l.length (l.flatMap AZ)
 map:Hw w mb V.length D
 at_:I6 D (L.map B3)
 ok:∀l∈L,Jh l
 b0:w0.heap.size<=bb/\w0.heap.size<=mb
 below:Below w0.heap.size w0 w
 small:V.length<=100000
 IU:∀x∈V,x.2=.slice none 0 0
theorem D1.later{t w w':World}{j mb tb:Nat}{v:Value}{g:Gz}{o p:Value}{V:List (Value×Value)}{L:List (List It)}{D:DataW Unit}(h:D1 t w j mb tb v g o p V L D)(i:Below w.heap.size w w'):D1 t w' j mb tb v g o p V L D:=
 ⟨h.gn,(i.block j (Ah.lt h.An)).trans h.An,AS h.rows i,h.len,fun k x l J I=>AS (h.items k x l J I) i,h.map.kept (row:=none) ⟨i.os,i.tape,i.output,i.size,fun k C _=>i.block k C⟩ (by simp),h.at_,h.ok,h.b0,h.below.trans (i.mono h.below.size),h.small,h.IU⟩
theorem D1.bg{t w:World}{i mb tb:Nat}{v:Value}{g:Gz}{l p:Value}{V:List (Value×Value)}{L:List (List It)}{D:DataW Unit}(h:D1 t w i mb tb v g l p V L D):BG w i v g:=by
 refine⟨h.gn.later h.below,fun j o=>?_⟩;obtain⟨J,T,C,P,I,R,rfl,-,-⟩:=h.gn.open_;rw[h.An.cell]
 match j,o with
 | 0,_=>rfl
 | 1,_=>rfl
 | 2,_=>rfl
 | 3,_=>rfl
theorem LL{L:List (List It)}{l:List It}(j:∀m∈L,Jh m)(o:Jh l):B3 l∈L.map B3<->l∈L:=by rw[List.mem_map];exact⟨fun⟨m,i,e⟩=>NC (j m i).2 o.2 e▸i,fun h=>⟨l,h,rfl⟩⟩
theorem YF{L:List (List It)}{l:List It}(i:∀m∈L,Jh m)(C:Jh l):(L.map B3).idxOf (B3 l)=L.idxOf l:=by
 induction L with
 | nil=>rfl
 | cons m L J=>
  have t:=J fun x I=>i x (List.mem_cons_of_mem _ I)
  rw[List.map_cons,List.idxOf_cons,List.idxOf_cons,t];by_cases e:m=l
  ·subst e;simp
  ·have p:B3 m≠B3 l:=fun h=>e (NC (i m (List.mem_cons_self ..)).2 C.2 h)
   have j:(m==l)=false:=beq_false_of_ne e;have o:(B3 m==B3 l)=false:=beq_false_of_ne p;rw[j,o]
theorem D1.more{o w w':World}{C mb tb:Nat}{v:Value}{g:Gz}{I sv:Value}{V:List (Value×Value)}{L:List (List It)}{D:DataW Unit}(h:D1 o w C mb tb v g I sv V L D){iv:Value}{l:List It}(P:Jh l)(hn:l ∉ L)(hV:V.length<100000)
  {J:Value} (U:Ah w' C 179 (v.cells++#[I,J,.map (some mb),.map (some tb)])) (hr:w'.ownsRow o.heap.size 71 2 J (V.length+1) (V.flatMap Fa++[iv,.slice none 0 0]))
  (hi:w'.ownsRow o.heap.size 194 2 iv l.length (l.flatMap AZ)) (ho:∀(k:Nat) (x:Value×Value) (m:List It),V[k]?=some x->L[k]?=some m->w'.ownsRow o.heap.size 194 2 x.1 m.length (m.flatMap AZ))
  (hm:Hw w' mb (V.length+1) (D.put (B6 (B3 l)) (.lit (.int .i64 (V.length:Nat))))) (a0:Below o.heap.size o w'):D1 o w' C mb tb v g I J (V++[(iv,.slice none 0 0)]) (L++[l]) (D.put (B6 (B3 l)) (.lit (.int .i64 (V.length:Nat)))):=by
 have t:B3 l ∉ L.map B3:=fun hh=>hn ((LL h.ok P).1 hh)
 refine⟨h.gn,U,?_,by simp[h.len],?_,by simpa using hm,?_,?_,h.b0,a0,by simp;omega,?_⟩
 ·simpa [Fa] using hr
 ·intro k x m j p
  by_cases t:k<V.length
  ·rw[gL t]at j
   rw[gL (by rw[h.len];exact t)]at p;exact ho k x m j p
  ·have a1:=(sG.1 j).1
   simp at a1;obtain rfl:k=V.length:=by omega
   have R:(V++[(iv,Value.slice none 0 0)])[V.length]?=some (iv,.slice none 0 0):=by simp
   have T:(L++[l])[V.length]?=some l:=by rw[<-h.len];simp
   rw[R]at j;rw[T]at p;cases j
   cases p
   exact hi
 ·have:=h.at_.next h.map.isMap t
  rw[lM,h.len]at this;rw[By];exact this
 ·intro m p
  rcases mA.1 p with i|i
  ·exact h.ok m i
  ·rw[mS.1 i];exact P
 ·intro x j
  rcases mA.1 j with i|i
  ·exact h.IU x i
  ·rw[mS.1 i]
theorem Fj{w:World}{B b:Nat}{e t:TypeId}{size n:Nat}{v:Value}{xs:List Value}{cs:Array Value}(h:w.ownsRow B e size v n xs)(o:Ah w b t cs)(C:t≠e):∀k,v.ownBlock=some k->k≠b:=by
 intro k i;rintro rfl;rcases h.2 with⟨rfl,_⟩|⟨g,cap,j,rfl,_,p,_⟩
 ·cases i
 ·cases i
  have l:Ah w g e j:=p;exact Ah.A8 o l C rfl
theorem TS{w:World}{B mb p:Nat}{e:TypeId}{size n:Nat}{v:Value}{xs:List Value}{D:DataW Unit}(h:w.ownsRow B e size v n xs)(o:Hw w mb p D):v.ownBlock≠some mb:=by
 intro j;obtain⟨C,clock,l,_⟩:=o;rcases h.2 with⟨rfl,_⟩|⟨g,cap,t,rfl,_,i,_⟩
 ·cases j
 ·cases j
  rw[l]at i;cases i
theorem SJ{w:World}{b mb l:Nat}{t:TypeId}{cs:Array Value}{D:DataW Unit}(h:Ah w b t cs)(j:Hw w mb l D):b≠mb:=by rintro rfl;obtain⟨o,clock,i,_⟩:=j;unfold Ah at h;rw[i]at h;cases h
theorem D1.mapped{i w w2:World}{p mb tb:Nat}{v:Value}{g:Gz}{t o:Value}{V:List (Value×Value)}{L:List (List It)}{D:DataW Unit}(h:D1 i w p mb tb v g t o V L D)(j:w.grownBy w2 (some mb)) :
  Ah w2 p 179 (v.cells++#[t,o,.map (some mb),.map (some tb)])/\w2.ownsRow i.heap.size 71 2 o V.length (V.flatMap Fa)/\(∀(iv:Value) (l:List It),w.ownsRow i.heap.size 194 2 iv l.length (l.flatMap AZ)->w2.ownsRow i.heap.size 194 2 iv l.length (l.flatMap AZ))/\Below i.heap.size i w2/\Aj (·=mb) w w2:=
 ⟨h.An.grown j (by have:=SJ h.An h.map;simp;exact this),h.rows.kept (row:=some mb) j (.inr (TS h.rows h.map)),fun iv l C=>C.kept (row:=some mb) j (.inr (TS C h.map)),h.below.grown j h.below.size (fun k I=>by cases I;exact h.b0.2),Aj.of_map j⟩
theorem D1.added{p w w2 j:World}{i mb tb:Nat}{v:Value}{g:Gz}{bv U:Value}{V:List (Value×Value)}{L:List (List It)}{D:DataW Unit}(h:D1 p w i mb tb v g bv U V L D){iv:Value}{l:List It}(hl:Jh l)(hn:l ∉ L)(hV:V.length<100000)(t:w.ownsRow p.heap.size 194 2 iv l.length (l.flatMap AZ))
  (hg:w.grownBy w2 (some mb)) (hm:Hw w2 mb (V.length+1) (D.put (B6 (B3 l)) (.lit (.int .i64 (V.length:Nat))))) {o:Obj} {A:Option Addr} {c:Nat} (r1:j.ownsRow p.heap.size 71 2 (.slice A (V.length+1) c) (V.length+1) (V.flatMap Fa++[iv,.slice none 0 0]))
  (J:AI p.heap.size [71] (w2.alloc o) j) (r3:(w2.alloc o).grownBy j U.ownBlock) :
  D1 p (j.setCell ⟨i,5,none⟩ (.slice A (V.length+1) c)) i mb tb v g bv (.slice A (V.length+1) c) (V++[(iv,.slice none 0 0)]) (L++[l]) (D.put (B6 (B3 l)) (.lit (.int .i64 (V.length:Nat))))/\Aj (fun k=>k=i\/k=mb\/U.ownBlock=some k) w (j.setCell ⟨i,5,none⟩ (.slice A (V.length+1) c)):=by
 obtain⟨m1,m2,m3,T,m5⟩:=h.mapped hg;obtain⟨AT,cT,AN,cN,AR,cR,rfl,-,-⟩:=h.gn.open_;have C:=J.An (m1.alloc o) (.inr (by decide));have p3:Hw j mb (V.length+1) (D.put (B6 (B3 l)) (.lit (.int .i64 (V.length:Nat)))):=by obtain⟨es,clock,P,rest⟩:=hm.alloc o;exact⟨es,clock,(J.block mb (aG.1 P).1 (.inr fun cs a3 m hh=>by rw[P]at hh;cases hh)).trans P,rest⟩
 have R:Aj (·=i) j (j.setCell ⟨i,5,none⟩ (.slice A (V.length+1) c)):=Aj.set (X:=(·=i)) (Aj.refl _ j) (p:=⟨i,5,none⟩) (.inr rfl) _;have ho:∀(I:Value) (m:List It),w.ownsRow p.heap.size 194 2 I m.length (m.flatMap AZ)->(j.setCell ⟨i,5,none⟩ (.slice A (V.length+1) c)).ownsRow p.heap.size 194 2 I m.length (m.flatMap AZ):=fun I m hj=>by have h3:=J.own ((m3 I m hj).alloc o) (.inr (by decide));exact R.own h3 (Fj h3 C (by decide))
 have a2:p.heap.size<=(w2.alloc o).heap.size:=by have:=T.size;simp;omega
 refine⟨h.more hl hn hV (C.Bn 5 _) (R.own r1 (Fj r1 C (by decide))) (ho _ _ t) (fun k x m hx a1=>ho _ _ (h.items k x m hx a1)) (p3.setCell (by have:=SJ C p3;simp;exact fun e=>this e.symm) _) ?_,?_⟩
 ·exact((T.alloc T.size o).trans (J.below a2)).setCell (p:=⟨i,5,none⟩) h.b0.1 _
 ·exact(((m5.mono fun a0 t=>.inr (.inl t)).alloc o).next ((Aj.Cw r3).mono fun a0 t=>.inr (.inr t))).next (R.mono fun a0 t=>.inl t)
def N3(C w:World)(i mb tb:Nat)(v:Value)(g:Gz)(o p:Value)(r:Nat×List (List It))(e:Ending)(w':World):Prop:=
 e=.returned (.int .i64 (r.1:Nat))/\∃t l j,D1 C w' i mb tb v g o t l r.2 j/\Aj (fun k=>k=i\/k=mb\/p.ownBlock=some k) w w'
theorem TB{w0 w:World}{bb mb tb:Nat}{v:Value}{g:Gz}{bv sv:Value}{V:List (Value×Value)}{L:List (List It)}{D:DataW Unit}(h:D1 w0 w bb mb tb v g bv sv V L D){iv:Value}{l:List It}(hr:w.ownsRow w0.heap.size 194 2 iv l.length (l.flatMap AZ))(C:Jh l)(hV:V.length<100000) :
  Calls Tryz.prog 108 #[.pointer (some ⟨bb,0,none⟩),iv] w (N3 w0 w bb mb tb v g bv sv (Ew L l)):=by
 have HK:=Hd (Xw (CU.own hr (by have:=C.1;omega)) C.1 (fun x hx=>by have:=C.2 x hx;omega));obtain⟨Ai,ci,rfl⟩:=Bw hr;obtain⟨As,cs,rfl⟩:=Bw h.rows;obtain⟨AT,cT,AN,cN,AR,cR,rfl,-,-⟩:=h.gn.open_;have HH:=Hd h;have HR:=Hd hr;have j:=Hd C;clear h hr C;have HD:Hid (Below w.heap.size w w->True):=Hd fun _=>trivial
 by_cases p:l∈L
 ·have J:Ew L l=(L.idxOf l,L):=if_pos p
  rw[J];unfold N3;have t:=Hd p;clear J p;go_enter Tryz.func108,Tryz.ntmps108
  go_wp2_with (
   go_at_call 146;refine HK.out.mono ?_;rintro e w1 ⟨rfl,o⟩
   have i:=HH.out.later o;have U:=QX i.map i.at_ (s:=B3 l) (by rw[Je];have:=j.out.1;omega);rw[if_pos ((LL i.ok j.out).2 t.out),YF i.ok j.out,decide_eq_true ((LL i.ok j.out).2 t.out)]at U;have z6:=Ah.cell i.An 6;simp[Value.cells]at z6;have P:=Hd o;have H1:=Hd i;clear o i)
  go_ret;exact⟨rfl,_,_,_,H1.out,(Aj.AH P.out)⟩
 ·have J:Ew L l=(L.length,L++[l]):=if_neg p
  rw[J];unfold N3;have t:=Hd p;clear J p;go_enter Tryz.func108,Tryz.ntmps108
  go_wp2_with (
   go_at_call 146;refine HK.out.mono ?_;rintro e w1 ⟨rfl,o⟩
   have i:=HH.out.later o;have U:=QX i.map i.at_ (s:=B3 l) (by rw[Je];have:=j.out.1;omega);have a2:B3 l ∉ L.map B3:=fun hh=>t.out ((LL i.ok j.out).1 hh)
   rw[if_neg a2,decide_eq_false a2]at U;have z5:=Ah.cell i.An 5;have z6:=Ah.cell i.An 6;simp[Value.cells]at z5 z6;have P:=Hd o;have H1:=Hd i;clear o i a2)
  have R:=Hd (H1.out.later ((Below.refl _ w1).drew));obtain⟨w2,a9,a4,a1⟩:=VU R.out.map (by omega) (s:=B3 l) (by rw[Je];have:=j.out.1;omega) (c:=V.length) (by omega);have I:=R.out.mapped a1;have a7:=Hd a4;have a5:=Hd a1;have a0:=Hd I;have e5:=Ah.cell I.1 5;have f5:=Ah.frozen I.1 5;simp[Value.cells]at e5;have aa:=Ah.lt I.1;clear a4 a1 I
  go_region
  clear a9 z5 z6 U;have a8:=R.out.len;have a3:=AS HR.out P.out.drew;have a6:=Hd a3;clear a3;go_wp2_with (
   at_builtin;refine DA Xs (.tmp 35) (.tmp 38) rfl rfl (base:=w0.heap.size) (n:=V.length) (m:=1) (N:=V.length+1) (xs:=V.flatMap Fa) (news:=[.slice Ai l.length ci,.slice none 0 0]) rfl rfl (a0.out.2.1.alloc _) (Bc.An (c:=1) (cs:=[.slice Ai l.length ci,.slice none 0 0]) (Ah.new w2 71 _) rfl (by simp[Value.oneCell'])) rfl (by unfold maxLen;omega) (by omega) (by have:=a0.out.2.2.2.1.size;simp;omega) ?_
   intro A3 c3 w3 r1 r2 r3;have HF:=Hd (R.out.added j.out t.out hV a6.out a5.out a7.out r1 r2 r3.1);have T:=r2.An (a0.out.1.alloc _) (.inr (by decide));have e6:=Ah.cell T 5;have f6:=Ah.frozen T 5;simp[Value.cells]at e6;have ab:=Ah.lt T;clear r1 r2 r3 T)
  go_ret;exact⟨by rw[a8];rfl,_,_,_,HF.out.1,(Aj.AH P.out.drew).next HF.out.2⟩
structure BX(w:World)(B g n c:Nat)(R:List (Value×List It)):Prop where
 row:w.ownsRow B 68 1 (.slice (some ⟨g,0,none⟩) n c) n (R.map (·.1))
 own:∀(k:Nat) (x:Value×List It),R[k]?=some x->w.ownsRow B 194 2 x.1 x.2.length (x.2.flatMap AZ)
 apart:∀(i j:Nat) (x y:Value×List It),R[i]?=some x->R[j]?=some y->i≠j->∀k,x.1.ownBlock=some k->y.1.ownBlock≠some k
theorem BX.len{w:World}{B g n c:Nat}{R:List (Value×List It)}(h:BX w B g n c R):R.length=n:=by have:=h.row.1;simpa using this
theorem BX.later{w w':World}{B g n c:Nat}{R:List (Value×List It)}(h:BX w B g n c R)(i:Below w.heap.size w w'):BX w' B g n c R:=
 ⟨AS h.row i,fun k x j=>AS (h.own k x j) i,h.apart⟩
theorem BX.Aw{X:Nat->Prop}{w w':World}{B g n c:Nat}{R:List (Value×List It)}(h:BX w B g n c R)(i:Aj X w w')(o:¬X g)(l:∀(k:Nat) (x:Value×List It),R[k]?=some x->∀b,x.1.ownBlock=some b->¬X b):BX w' B g n c R:=
 ⟨i.own h.row (fun k p=>by cases p;exact o),fun k x j=>i.own (h.own k x j) (l k x j),h.apart⟩
theorem B9{w:World}{B:Nat}{e:TypeId}{size n:Nat}{v:Value}{xs:List Value}(h:w.ownsRow B e size v n xs):∀k,v.ownBlock=some k->k<w.heap.size/\B<=k:=by
 intro k i;rcases h.2 with⟨rfl,_⟩|⟨g,cap,o,rfl,j,l,_⟩
 ·cases i
 ·cases i
  exact⟨(aG.1 l).1,j⟩
theorem BX.An{w:World}{B g n c:Nat}{R:List (Value×List It)}(h:BX w B g n c R):∃i,Ah w g 68 i:=by
 rcases h.row.2 with⟨j,_⟩|⟨o,cap,i,j,p,l,_⟩
 ·cases j
 ·cases j;exact⟨i,l⟩
theorem BX.put{w W o:World}{B g n c:Nat}{R:List (Value×List It)}(h:BX w B g n c R)(hW:Below w.heap.size w W){s:Nat}{x:Value×List It}(hx:R[s]?=some x){nv:Value}{l:List It}
  (r1:o.ownsRow B 194 2 nv l.length (l.flatMap AZ)) (r2:AI B [194] W o) (r3:W.grownBy o x.1.ownBlock/\(nv.ownBlock=x.1.ownBlock\/nv.ownBlock=some W.heap.size)):BX (o.setCell ⟨g,s,none⟩ nv) B g n c (R.set s (nv,l)):=by
 have t:=h.later hW;obtain⟨U,a9⟩:=sG.1 hx;have a8:=h.len;obtain⟨a7,a4⟩:=t.An;have a2:=r2.An a4 (.inr (by decide));have hc:Aj (·=g) o (o.setCell ⟨g,s,none⟩ nv):=Aj.set (X:=(·=g)) (Aj.refl _ o) (p:=⟨g,s,none⟩) (.inr rfl) _;have a5:=r2.own t.row (.inr (by decide));refine⟨?_,?_,?_⟩
 ·have:=GD a5 s (by omega) nv
  rw[List.map_set];exact this
 ·intro k y j
  by_cases T:k=s
  ·subst T
   rw[tG U]at j;cases j
   exact hc.own r1 (Fj r1 a2 (by decide))
  ·rw[uG (fun e=>T e.symm)]at j
   have a6:=t.own k y j;have a3:o.ownsRow B 194 2 y.1 y.2.length (y.2.flatMap AZ):=(Aj.Cw r3.1).own a6 (fun b i he=>h.apart s k x y hx j (fun e=>T e.symm) b he i);exact hc.own a3 (Fj a3 a2 (by decide))
 ·intro a0 a1 a b ha i P k C I
  have key:∀(m:Nat) (y:Value×List It),R[m]?=some y->m≠s->∀k,nv.ownBlock=some k->y.1.ownBlock≠some k:=fun m y j hm k p h2=>by
   rcases r3.2 with e|e
   ·rw[e]at p
    exact h.apart s m x y hx j (fun e=>hm e.symm) k p h2
   ·rw[e]at p
    cases p
    have:=(B9 (t.own m y j) _ h2).1;omega
  by_cases J:a0=s
  ·subst J
   rw[tG U]at ha;cases ha
   rw[uG P]at i;exact key a1 b i (fun e=>P e.symm) k C I
  ·rw[uG (fun e=>J e.symm)]at ha
   by_cases hj:a1=s
   ·subst hj
    rw[tG U]at i;cases i
    exact key a0 a ha J k I C
   ·rw[uG (fun e=>hj e.symm)]at i
    exact h.apart a0 a1 a b ha i P k C I
def IG(R:List (List It))(s:Nat)(x:It):List (List It):=R.modify s (·++[x])
def Dy(g:Gz)(R:List (List It))(x:It):List (List It):=if g.next x=0 then R else IG R (g.next x) (x.1,x.2+1)
theorem gK(R:List (Value×List It))(s:Nat)(x:Value×List It)(j:R[s]?=some x)(nv:Value)(l:It):(R.set s (nv,x.2++[l])).map (·.2)=IG (R.map (·.2)) s l:=by
 unfold IG;rw[List.map_set];apply List.ext_getElem?;intro k;rw[List.getElem?_modify,List.getElem?_set];by_cases i:s=k
 ·subst i
  have o:=(sG.1 j).1;have e:=(sG.1 j).2;simp[o,e]
 ·simp[i]
def IX(j:Nat)(R:List (Value×List It))(k:Nat):Prop:=k=j\/∃(i:Nat) (x:Value×List It),R[i]?=some x/\x.1.ownBlock=some k
theorem eZ{w p W o:World}{l j n c:Nat}{R:List (Value×List It)}(I:BX p l j n c R)(a0:Below w.heap.size w p)(C:Below p.heap.size p W)(a3:l<=w.heap.size){s k d:Nat}{t:Value}{i:List It}(J:R[s]?=some (t,i)){A:Option Addr}{c3:Nat}
  (r1:o.ownsRow l 194 2 (.slice A (i.length+1) c3) (i.length+1) (i.flatMap AZ++AZ (k,d+1))) (T:AI l [194] W o) (U:W.grownBy o t.ownBlock/\((Value.slice A (i.length+1) c3).ownBlock=t.ownBlock\/(Value.slice A (i.length+1) c3).ownBlock=some W.heap.size)) :
  ∃P,BX (o.setCell ⟨j,s,none⟩ (.slice A (i.length+1) c3)) l j n c P/\P.map (·.2)=IG (R.map (·.2)) s (k,d+1)/\Aj (IX j R) w (o.setCell ⟨j,s,none⟩ (.slice A (i.length+1) c3)):=by
 have hg:l<=j:=(B9 I.row j rfl).2;obtain⟨a2,a1⟩:=(I.later C).An;have a4:=T.An a1 (.inr (by decide));refine⟨_,I.put C J (l:=i++[(k,d+1)]) (by simpa using r1) T U,gK R s (t,i) J _ _,?_⟩;exact(((Aj.AH a0).next (Aj.AH C)).next ((Aj.Cw U.1).mono fun a5 hi=>.inr ⟨s,_,J,hi⟩)).set (p:=⟨j,s,none⟩) (.inr (.inl rfl)) _
theorem Wf{w:World}{bb pb rb I l n c:Nat}{v:Value}{g:Gz}{R:List (Value×List It)}(aa:BG w bb v g)(U:Ah w pb 175 #[.pointer (some ⟨bb,0,none⟩)])(ab:Ah w rb 177 #[.slice (some ⟨l,0,none⟩) n c])(hf:BX w I l n c R)(hB:I<=w.heap.size)
  {k d:Nat} (hk:k<=g.R.length) (hd:d<=10000) (hn:g.next (k,d)<n) (hl:∀(j:Nat) (x:Value×List It),R[j]?=some x->x.2.length<=100000) :
  Calls Tryz.prog 148 #[CJ (k,d),.pointer (some ⟨pb,0,none⟩),.pointer (some ⟨rb,0,none⟩)] w fun e w'=>e=.returned (.tuple #[])/\∃R',BX w' I l n c R'/\R'.map (·.2)=Dy g (R.map (·.2)) (k,d)/\Aj (IX l R) w w':=by
 have an:=hf.len;obtain⟨s,hs⟩:∃s,g.next (k,d)=s:=⟨_,rfl⟩
 have p:=Hd (Ay w (.cells #[.int .i64 k,.int .i64 d] 194));have HN:=Hd (fun y (hy:Below w.heap.size w y)=>Oh (aa.later hy) hk (d:=d) (by omega));have HX:=Hd (Ah.new w 194 #[.int .i64 k,.int .i64 d]);have HP:=Hd U;have a6:=Hd ab;have HF:=Hd hf;have HL:=Hd hl;have a9:Dy g (R.map (·.2)) (k,d)=if s=0 then R.map (·.2) else IG (R.map (·.2)) s (k,d+1):=by unfold Dy;rw[hs]
 rw[a9];rw[hs]at hn HN;have z0:=(p.out.cell (p:=⟨pb,0,none⟩) U.lt).trans (U.cell 0);simp at z0;clear aa U ab hf hl hs a9;unfold CJ;by_cases h0:s=0
 ·subst h0
  rw[if_pos rfl];go_enter Tryz.func148,Tryz.ntmps148
  go_wp2_with (go_at_call 145;refine(HN.out _ p.out).mono ?_;rintro e i ⟨rfl,C⟩;have t:=Hd (p.out.trans (C.mono p.out.size));clear C)
  go_end0
  exact⟨rfl,R,HF.out.later t.out,rfl,Aj.AH t.out⟩
 ·rw[if_neg h0]
  obtain⟨⟨xv,P⟩,hx⟩:∃x,R[s]?=some x:=⟨_,eG (by omega)⟩
  have ak:=HL.out _ _ hx;simp only at ak;obtain⟨Ax,cx,ae⟩:=Bw (HF.out.own _ _ hx);simp only at ae;subst ae;have T:=Hd hx;clear hx;have ao:(0:Int)<(s:Int):=by omega
  have ar:(s:Int)<(n:Int):=by omega
  go_enter Tryz.func148,Tryz.ntmps148
  go_wp2_with (go_at_call 145;refine(HN.out _ p.out).mono ?_;rintro e i ⟨rfl,C⟩;have t:=Hd (p.out.trans (C.mono p.out.size));have a2:=Hd (HX.out.below C (by simp));clear C)
  have J:=HF.out.later t.out;have a1:=Hd J;have a5:=Hd (J.own _ _ T.out);have a0:=a6.out.below t.out (Ah.lt a6.out);have c0:i.cell? ⟨rb,0,none⟩=_:=Ah.cell a0 0;have aq:=Ah.lt a0;have c1:i.cell? ⟨l,s,none⟩=some (.slice Ax P.length cx):=by have h1:=Bf J.row s (by omega);rw[pG,T.out]at h1;exact h1
  obtain⟨aj,a3⟩:=J.An;have al:=Ah.lt a3;have x0:i.cell? ⟨w.heap.size,0,none⟩=_:=Ah.cell a2.out 0;have x1:i.cell? ⟨w.heap.size,1,none⟩=_:=Ah.cell a2.out 1;have aw:=Ah.lt a2.out;simp only[List.getElem?_toArray,List.getElem?_cons_zero,List.getElem?_cons_succ]at c0 x0 x1;have av:=t.out.size;have a7:=Hd a0;have a4:=Hd a3;have au:IntKind.i64.wrap ((d:Int)+1)=(d:Int)+1:=IntWalk.i64_in _ (by omega);clear J a0 a3 z0;generalize ad:w.heap.size=xb at *;have a8:=Hd ad;clear ad;go_region_law (
    refine Ep M0 (.tmp 15) (.tmp 22) ?_ ?_ (base:=I) (n:=P.length) (m:=1) (N:=P.length+1) (v:=.slice Ax P.length cx) (src:=.slice (some ⟨i.heap.size,0,none⟩) 1 1) (xs:=P.flatMap AZ) (news:=AZ (k,d+1)) ?_ ?_ ?_ ?_ ?_ ?_ ?_ ?_ ?_
    ·rfl
    ·rfl
    ·rfl
    ·rfl
    ·first|exact(AS a5.out ((Below.refl _ i).drew)).alloc _|exact AS (a5.out.alloc _) ((Below.refl _ _).drew)
    ·first|exact Oy (k,d+1) i.drew|exact Oy (k,d+1) i
    ·rfl
    ·unfold maxLen;omega
    ·omega
    ·simp;omega
    intro A3 c3 w3 r1 o r3;have af:=Hd r1;have ag:=Hd o;have ah:=Hd r3;have b3:Ah w3 rb 177 #[.slice (some ⟨l,0,none⟩) n c]:=by first|exact o.An ((a7.out.drew).alloc _) (.inr (by decide))|exact o.An (Ah.drew (a7.out.alloc _)) (.inr (by decide))
    have ai:=Ah.cell b3 0;simp at ai;have g3:Ah w3 l 68 aj:=by first|exact o.An ((a4.out.drew).alloc _) (.inr (by decide))|exact o.An (Ah.drew (a4.out.alloc _)) (.inr (by decide))
    have f3:=Ah.frozen g3 s;have o3:w3.ownsRow I 68 1 (.slice (some ⟨l,0,none⟩) n c) n (R.map (·.1)):=by first|exact o.own ((AS a1.out.row ((Below.refl _ i).drew)).alloc _) (.inr (by decide))|exact o.own (AS (a1.out.row.alloc _) ((Below.refl _ _).drew)) (.inr (by decide))
    have q3:=Bf o3 s (by omega);rw[pG,T.out]at q3;simp only[Option.map_some]at q3;clear r1 o r3 b3 g3 o3)
  all_goals go_end0
  all_goals refine⟨rfl,?_⟩
  all_goals refine eZ a1.out (by rw[a8.out];exact t.out) ?_ (by rw[a8.out];exact hB) T.out af.out ag.out ah.out
  all_goals exact⟨rfl,rfl,rfl,by simp,fun k hk=>Below.heap_alloc i _ _ hk⟩
namespace Gz
def Ex(g:Gz)(bg:List (List It))(p:List (List It)×List Nat)(x:It):List (List It)×List Nat:=
 let s:=g.next x
 if s∈p.2\/g.AV s=false then(Dy g p.1 x,p.2) else((bg.getD s []).foldl (Dy g) (Dy g p.1 x),s::p.2)
def GM(g:Gz)(bg:List (List It))(l:List It):List (List It):=((l.foldl (g.Ex bg) (List.replicate (g.top+1) [],[])).1).map DD
end Gz
def EV(m:Nat)(R:List (List It)):Prop:=∀l∈R,l.length<=m
theorem EV.move{m:Nat}{R:List (List It)}(h:EV m R)(g:Gz)(x:It):EV (m+1) (Dy g R x):=by
 unfold Dy;split
 ·exact fun l o=>Nat.le_succ_of_le (h l o)
 ·intro l o
  obtain⟨i,j⟩:=List.mem_iff_getElem?.1 o;unfold IG at j;rw[List.getElem?_modify]at j;cases p:R[i]? with
  | none=>rw[p]at j;cases j
  | some r=>
   rw[p]at j;have t:=h r (mG p);simp only[Option.map_eq_map,Option.map_some,Option.some.injEq]at j;subst j;split
   ·simp;exact t
   ·omega
theorem EV.KV{m:Nat}{R:List (List It)}(h:EV m R)(g:Gz):∀l:List It,EV (m+l.length) (l.foldl (Dy g) R)
 | []=>h
 | x::l=>by have:=EV.KV (h.move g x) g l;rw[List.foldl_cons,List.length_cons,show m+(l.length+1)=m+1+l.length by omega];exact this
end Go.Proofs.YthaacmablcpdfaaGreatDoor
