/- Whether a row of names is among those th. The builder. The builder. The builder. The builder. The builder. The builder. A grammar of a text. The grammar that has been read. The POSIX grammar. The program computes at all. -/
import Derived.Test.YthaacmablcpdfaaGreatDoorYaz
import Derived.Shelf.Abstract
import Derived.Defers
import Derived.Recover
import Derived.Deep.DeepCutAuto
import Derived.Test.YthaacmablcpdfaaGreatDoorYae
import Derived.Test.YthaacmablcpdfaaGreatDoorYao
import Derived.Test.YthaacmablcpdfaaGreatDoorYac
import Derived.Test.YthaacmablcpdfaaGreatDoorYn
set_option linter.unusedVariables false
set_option maxRecDepth 100000
set_option maxHeartbeats 16000000
namespace Go.Proofs.YthaacmablcpdfaaGreatDoor
open Go.RowKit
section
open Go.RowKit Go.Maps
theorem Yv{w:World}{j l:Nat}{p:Addr}{u v:Value}{a b:List AO}(ha:w.ownsRow j 9 1 u a.length (a.map Nv))(i:w.ownsRow l 9 1 v b.length (b.map Nv))(I:w.cell? p=some u):Calls Tryz.prog 177 #[v,.pointer (some p)] w fun e w'=>e=.returned (.bool (a==b))/\∃q,w'=w.drewN q:=by
 have o:=Hd (UE ha i);clear ha i;go_enter Tryz.func177,Tryz.ntmps177
 go_wp2_with (go_at_call 178;refine o.out.mono ?_;intro e w' C;obtain⟨rfl,t⟩:=C)
 go_ret;exact⟨rfl,t⟩
theorem eL{o:Type}{p:o->Bool}{l:List o}{k:Nat}{x:o}(I:l[k]?=some x)(C:p x=false)(t:∀j y,j<k->l[j]?=some y->p y=false):∀j y,j<k+1->l[j]?=some y->p y=false:=by
 intro j y J i;by_cases e:j=k
 ·subst e
  rw[I]at i;cases i
  exact C
 ·exact t j y (by omega) i
theorem YE{w:World}{B:Nat}{v:Value}{l:List BC}(H:w.ownsRow B 30 1 v l.length (l.map BC.v))(p:List AO->Bool)(g:Nat)(lb:Array Value)(eg:∀args y,(callFunc g args).run Tryz.prog y=.ok (.enter g args) y)
  (hp:∀x∈l,∀y,Below w.heap.size w y->Calls Tryz.prog g (#[x.v]++lb) y (fun e w'=>e=.returned (.bool (p x.l))/\Below y.heap.size y w')) :
  Calls Tryz.prog 208 #[v,.func (.func g) #[] lb] w fun e w'=>(∃i:Int,e=.returned (.int .i64 i)/\((∃x∈l,p x.l=true)/\0<=i\/(∀x∈l,p x.l=false)/\i = -1))/\Below w.heap.size w w':=by
 obtain⟨A,c,rfl⟩:=Bw H;have a2:l.length<=9223372036854775807:=by
  rcases Bv H with⟨_,h0⟩|⟨_,c3,_,_,_,h1,h2,_⟩
  ·omega
  ·unfold maxLen at h2;omega
 have HC:=Hd (fun(h:0<l.length)=>JV H h);have HP:=Hd hp;clear H hp;go_enter Tryz.func208,Tryz.ntmps208
 go_wp2;go_loopw [5,8] (fun _ i wr=>∃k:Nat,k<=l.length/\i=.int .i64 k/\Hid (∀j y,j<k->l[j]?=some y->p y.l=false)/\Hid (Below w.heap.size w wr)) (fun _ i _=>l.length-(intOf i).toNat)
 case atStart=>exact⟨0,AP _,rfl,Hd (fun j y P=>absurd P (Nat.not_lt_zero _)),Hd (Below.refl _ w)⟩
 case round=>
  obtain⟨k,hk,rfl,HA,o⟩:=hrel;by_cases a1:k<l.length
  ·have t:=eG a1
   generalize l[k]=x at t;have U:=mG t;obtain⟨b,c2,e1,a0⟩:=HC.out (by omega);cases e1
   have T:=a0 k x.v (by rw[pG,t];rfl);have a3:=(o.out.cell (p:=⟨b,k,none⟩) (World.block_lt_of_cell? w _ T)).trans T;have J:=Hd (HP.out x U wr o.out);have HX:=Hd t;have HM:=Hd U;clear t a0 U T HC;cases C:p x.l with
   | true=>
    rw[C]at J;have HQ:=Hd C;clear C;go_wp2_with (go_at_fn g;refine J.out.mono ?_;rintro e w' ⟨rfl,I⟩;have R:=Hd (o.out.trans (I.mono o.out.size));clear I)
    go_ret;exact⟨⟨_,rfl,.inl ⟨⟨x,HM.out,HQ.out⟩,by omega⟩⟩,R.out⟩
   | false=>
    rw[C]at J;have HN:=Hd (eL (p:=fun y:BC=>p y.l) HX.out C HA.out);clear C;go_wp2_with (go_at_fn g;refine J.out.mono ?_;rintro e w' ⟨rfl,I⟩;have R:=Hd (o.out.trans (I.mono o.out.size));clear I)
    go_roundw
    case rel=>exact⟨k+1,by omega,by go_num,HN,R⟩
    case measure=>simp[intOf];omega
  ·obtain rfl:k=l.length:=by omega
   have HI:Hid (∀x∈l,p x.l=false):=Hd (fun x t=>by obtain⟨j,P⟩:=List.mem_iff_getElem?.1 t;exact HA.out j x (sG.1 P).1 P)
   go_wp2;go_ret;exact⟨⟨_,rfl,.inr ⟨HI.out,rfl⟩⟩,o.out⟩
theorem YB{w:World}{B:Nat}{v:Value}{l:List BC}(H:w.ownsRow B 30 1 v l.length (l.map BC.v))(p:List AO->Bool)(g:Nat)(lb:Array Value)(t:∀args y,(callFunc g args).run Tryz.prog y=.ok (.enter g args) y)
  (J:∀x∈l,∀y,Below w.heap.size w y->Calls Tryz.prog g (#[x.v]++lb) y (fun e w'=>e=.returned (.bool (p x.l))/\Below y.heap.size y w')) :
  Calls Tryz.prog 176 #[v,.func (.func g) #[] lb] w fun e w'=>e=.returned (.bool ((l.map BC.l).any p))/\Below w.heap.size w w':=by
 have R:=Hd (YE H p g lb t J);obtain⟨A,c,rfl⟩:=Bw H;clear H J t;generalize l.length=n at *;have a0:Hid ((∃x∈l,p x.l=true)->(l.map BC.l).any p=true):=Hd (fun⟨x,i,j⟩=>by rw[List.any_eq_true];exact⟨x.l,List.mem_map_of_mem i,j⟩);have U:Hid ((∀x∈l,p x.l=false)->(l.map BC.l).any p=false):=Hd (fun h=>by rw[List.any_eq_false];intro y hy;obtain⟨x,o,rfl⟩:=List.mem_map.1 hy;rw[h x o];simp);go_enter Tryz.func176,Tryz.ntmps176
 go_wp2_with (go_at_call 208;refine R.out.mono ?_;intro e w' o;obtain⟨⟨a1,rfl,I⟩,C⟩:=o;have T:=Hd I;have P:=Hd C;clear I C)
 go_ret;refine⟨BB ?_,P.out⟩;rcases T.out with⟨i,j⟩|⟨i,rfl⟩
 ·rw[a0.out i];simpa using j
 ·rw[U.out i];rfl
end
section
open Go.RowKit Go.Maps
theorem BO.past{X:Nat->Prop}{w0 w w':World}{bb tm nm rb:Nat}{tv nv gv:Value}{b:Bd}{gs:List BC}{DT DN:DataW Unit}(h:BO w0 w bb tm nm rb tv nv gv b gs DT DN)(i:Aj X w w')(h0:∀k,k<w0.heap.size->¬X k)
  (l:¬X bb) (t:¬X tm) (C:¬X nm) (J:∀g,tv.ownBlock=some g->¬X g) (P:∀g,nv.ownBlock=some g->¬X g) (o:∀g,gv.ownBlock=some g->¬X g) (I:∀q∈gs,∀g,q.v.ownBlock=some g->¬X g):BO w0 w' bb tm nm rb tv nv gv b gs DT DN where
 below:=h.below.trans (i.below h.below.size h0)
 An:=i.An h.An l
 ft:=i.own h.ft J
 fn:=i.own h.fn P
 fg:=i.own h.fg o
 names:=h.names
 rows q j:=i.own (h.rows q j) (I q j)
 tn:=h.tn
 tr:=h.tr
 nr:=h.nr
 mt:=D6 h.mt i t
 mn:=D6 h.mn i C
 pt:=h.pt
 pn:=h.pn
 b0:=h.b0
 b1:=h.b1
 lt:=h.lt
 ln:=h.ln
 lr:=h.lr
def MW(bb tm nm:Nat)(tv nv gv:Value)(k:Nat):Prop:=DE bb tm nm tv nv k\/gv.ownBlock=some k
theorem BH.bJ{w:World}{bb tm nm:Nat}{tv nv l j:Value}(o:BH w tv l)(t:BH w nv j):∀i,i<w.heap.size->DE bb tm nm l j i->DE bb tm nm tv nv i:=by
 intro i C h;rcases h with h|h|h|h|h
 ·exact .inl h
 ·exact .inr (.inl h)
 ·exact .inr (.inr (.inl h))
 ·rcases o i h with h|h
  ·exact .inr (.inr (.inr (.inl h)))
  ·omega
 ·rcases t i h with h|h
  ·exact .inr (.inr (.inr (.inr h)))
  ·omega
theorem BH.next{w i:World}{u v x:Value}(j:BH w u v)(l:BH i v x)(t:w.heap.size<=i.heap.size):BH w u x:=by
 intro k o;rcases l k o with h|h
 ·exact j k h
 ·exact .inr (AX t h)
structure F5(w0 w:World)(bb tm nm rb:Nat)(tv0 nv0 gv:Value)(gs:List BC)(xb sb:Nat)(sv:Value)(p:Nat)(left:AO)(done:List AO)(b:Bd)(tv nv xv:Value)(DT DN:DataW Unit)(wr:World):Prop where
 at_:BO w0 wr bb tm nm rb tv nv gv b gs DT DN
 box:Ah wr xb 30 #[xv]
 Ju:Ah wr sb 211 #[sv,.int .i64 p]
 own:wr.ownsRow w.heap.size 9 1 xv (done.length+1) ((left::done).map Nv)
 xt:∀k,xv.ownBlock=some k->¬tv.ownBlock=some k
 xn:∀k,xv.ownBlock=some k->¬nv.ownBlock=some k
 Aw:Aj (DE bb tm nm tv0 nv0) w wr
 nt:BH w tv0 tv
 nn:BH w nv0 nv
 hx:w.heap.size<=xb
 hs:w.heap.size<=sb
 h0:w0.heap.size<=w.heap.size
 hg:∀k,gv.ownBlock=some k->k<w.heap.size
 hq:∀q∈gs,∀k,q.v.ownBlock=some k->k<w.heap.size
theorem J3{w0 w:World}{bb tm nm rb g:Nat}{tv nv gv:Value}{b:Bd}{gs:List BC}{DT DN:DataW Unit}{t:TypeId}{cs:Array Value}(h:BO w0 w bb tm nm rb tv nv gv b gs DT DN)(i:Ah w g t cs)(o:t≠144)(l:t≠9):¬DE bb tm nm tv nv g:=by
 rintro(rfl|rfl|rfl|j|j)
 ·exact Ah.A8 i h.An o rfl
 ·exact GJ h.mt i rfl
 ·exact GJ h.mn i rfl
 ·exact CD h.ft i (Ne.symm l) j
 ·exact CD h.fn i (Ne.symm l) j
theorem Z3{w0 w:World}{bb tm nm rb g:Nat}{tv nv gv:Value}{b:Bd}{gs:List BC}{DT DN:DataW Unit}{t:TypeId}{cs:Array Value}(h:BO w0 w bb tm nm rb tv nv gv b gs DT DN)(j:Ah w g t cs)(l:t≠144)(o:t≠9)(C:t≠30):¬MW bb tm nm tv nv gv g:=by
 rintro(i|i)
 ·exact J3 h j l o i
 ·exact CD h.fg j (Ne.symm C) i
namespace F5
variable {w0 w wr:World} {bb tm nm rb:Nat} {tv0 nv0 gv:Value} {gs:List BC} {xb sb:Nat} {sv:Value} {p:Nat} {left:AO} {done:List AO} {b:Bd} {tv nv xv:Value} {DT DN:DataW Unit}
theorem later(h:F5 w0 w bb tm nm rb tv0 nv0 gv gs xb sb sv p left done b tv nv xv DT DN wr){w':World}(j:Below wr.heap.size wr w'):F5 w0 w bb tm nm rb tv0 nv0 gv gs xb sb sv p left done b tv nv xv DT DN w':=by have i:Aj (fun _=>False) wr w':=.AH j;exact⟨h.at_.Aw i (fun _ _=>id),i.An h.box id,i.An h.Ju id,i.own h.own (fun _ _=>id),h.xt,h.xn,h.Aw.next (.AH j),h.nt,h.nn,h.hx,h.hs,h.h0,h.hg,h.hq⟩
theorem alloc(h:F5 w0 w bb tm nm rb tv0 nv0 gv gs xb sb sv p left done b tv nv xv DT DN wr)(o:Obj):F5 w0 w bb tm nm rb tv0 nv0 gv gs xb sb sv p left done b tv nv xv DT DN (wr.alloc o):=h.later (Ay wr o)
theorem drew(h:F5 w0 w bb tm nm rb tv0 nv0 gv gs xb sb sv p left done b tv nv xv DT DN wr):F5 w0 w bb tm nm rb tv0 nv0 gv gs xb sb sv p left done b tv nv xv DT DN wr.drew:=h.later (Iv wr)
theorem sym(h:F5 w0 w bb tm nm rb tv0 nv0 gv gs xb sb sv p left done b tv nv xv DT DN wr){w2:World}{J:Bd}{t o:Value}{I C:DataW Unit}(ha:BO w0 w2 bb tm nm rb t o gv J gs I C)(l:Aj (DE bb tm nm tv nv) wr w2)(T:BH wr tv t)(P:BH wr nv o) :
  F5 w0 w bb tm nm rb tv0 nv0 gv gs xb sb sv p left done J t o xv I C w2:=by
 have a0:∀k,xv.ownBlock=some k->¬DE bb tm nm tv nv k:=by
  rintro k i (rfl|rfl|rfl|j|j)
  ·exact CD h.own h.at_.An (by decide) i
  ·exact FQ h.at_.mt h.own i
  ·exact FQ h.at_.mn h.own i
  ·exact h.xt k i j
  ·exact h.xn k i j
 have R:=h.Aw.size;refine⟨ha,l.An h.box (J3 h.at_ h.box (by decide) (by decide)),l.An h.Ju (J3 h.at_ h.Ju (by decide) (by decide)),l.own h.own a0,?_,?_,h.Aw.trans l (fun a1 U=>h.nt.bJ h.nn a1 U),h.nt.next T R,h.nn.next P R,h.hx,h.hs,h.h0,h.hg,h.hq⟩
 ·intro k i j
  rcases T k j with e|e
  ·exact h.xt k i e
  ·have:=(BU h.own k i).2;omega
 ·intro k i j
  rcases P k j with e|e
  ·exact h.xn k i e
  ·have:=(BU h.own k i).2;omega
theorem app(h:F5 w0 w bb tm nm rb tv0 nv0 gv gs xb sb sv p left done b tv nv xv DT DN wr){w2:World}{o:Obj}{C:Option Addr}{c2:Nat}{s:AO}
  (ho:w2.ownsRow w.heap.size 9 1 (.slice C (done.length+1+1) c2) (done.length+1+1) ((left::done).map Nv++[Nv s]))
  (U:(wr.alloc o).grownBy w2 xv.ownBlock/\((Value.slice C (done.length+1+1) c2).ownBlock=xv.ownBlock\/(Value.slice C (done.length+1+1) c2).ownBlock=some (wr.alloc o).heap.size)) :
  F5 w0 w bb tm nm rb tv0 nv0 gv gs xb sb sv p left (done++[s]) b tv nv (.slice C (done.length+1+1) c2) DT DN (w2.setCell ⟨xb,0,none⟩ (.slice C (done.length+1+1) c2)):=by
 have T:Aj (fun k=>xv.ownBlock=some k) wr w2:=((Aj.refl _ wr).alloc o).next (.Cw U.1);have J:Aj (fun k=>xv.ownBlock=some k\/k=xb) wr (w2.setCell ⟨xb,0,none⟩ (.slice C (done.length+1+1) c2)):=(T.mono (fun i hi=>.inl hi)).set (p:=⟨xb,0,none⟩) (.inr (.inr rfl)) _;have I:∀k,xv.ownBlock=some k->w.heap.size<=k/\k<wr.heap.size:=fun k t=>BU h.own k t
 have a1:=h.box.lt;have a0:=h.h0;have hx:=h.hx;have R:¬xv.ownBlock=some xb:=CD h.own h.box (by decide);have e2:¬(xv.ownBlock=some sb\/sb=xb):=by
  rintro(e|rfl)
  ·exact CD h.own h.Ju (by decide) e
  ·exact Ah.A8 h.Ju h.box (by decide) rfl
 have P:∀k,(Value.slice C (done.length+1+1) c2).ownBlock=some k->xv.ownBlock=some k\/wr.heap.size<=k:=by
  intro k t;rcases U.2 with e|e
  ·exact .inl (e▸t)
  ·rw[e]at t;cases t;exact .inr (by simp)
 refine⟨h.at_.past J ?_ ?_ ?_ ?_ ?_ ?_ ?_ ?_,?_,J.An h.Ju e2,?_,?_,?_,(h.Aw.trans (J.mono (Y:=fun k=>w.heap.size<=k) ?_) (fun i hi j=>by omega)),h.nt,h.nn,h.hx,h.hs,h.h0,h.hg,h.hq⟩
 ·rintro k t (j|j)
  ·have:=(I k j).1;omega
  ·omega
 ·rintro(j|j)
  ·exact CD h.own h.at_.An (by decide) j
  ·subst j;exact Ah.A8 h.box h.at_.An (by decide) rfl
 ·rintro(j|j)
  ·exact FQ h.at_.mt h.own j
  ·exact GJ h.at_.mt h.box j
 ·rintro(j|j)
  ·exact FQ h.at_.mn h.own j
  ·exact GJ h.at_.mn h.box j
 ·rintro g l (j|j)
  ·exact h.xt g j l
  ·subst j;exact CD h.at_.ft h.box (by decide) l
 ·rintro g l (j|j)
  ·exact h.xn g j l
  ·subst j;exact CD h.at_.fn h.box (by decide) l
 ·rintro g l (j|j)
  ·have:=h.hg g l;have:=(I g j).1;omega
  ·have:=h.hg g l;omega
 ·rintro q hq g l (j|j)
  ·have:=h.hq q hq g l;have:=(I g j).1;omega
  ·have:=h.hq q hq g l;omega
 ·simpa using(T.An h.box R).Bn 0 (.slice C (done.length+1+1) c2)
 ·rw[show (done++[s]).length+1=done.length+1+1 by simp,show (left::(done++[s])).map Nv=(left::done).map Nv++[Nv s] by simp]
  refine EB ho ?_ _;intro e;rcases P _ e with e|e
  ·exact R e
  ·simp at e;omega
 ·intro k t j
  rcases P k t with e|e
  ·exact h.xt k e j
  ·have:=(BU h.at_.ft k j).2;omega
 ·intro k t j
  rcases P k t with e|e
  ·exact h.xn k e j
  ·have:=(BU h.at_.fn k j).2;omega
 ·rintro i (j|j)
  ·exact(I i j).1
  ·omega
end F5
theorem iE{w0 w w2:World}{bb tm nm rb:Nat}{tv nv gv xv:Value}{b:Bd}{gs:List BC}{DT DN:DataW Unit}{x:List AO}{l:Option Addr}{c2:Nat}{o:Obj}
  (h:BO w0 w bb tm nm rb tv nv gv b gs DT DN) (hx:w.ownsRow w0.heap.size 9 1 xv x.length (x.map Nv)) (a1:∀k,xv.ownBlock=some k->¬tv.ownBlock=some k) (a0:∀k,xv.ownBlock=some k->¬nv.ownBlock=some k) (a3:b.R.length<300)
  (ho:w2.ownsRow w0.heap.size 30 1 (.slice l (gs.length+1) c2) (gs.length+1) (gs.map BC.v++[xv]))
  (hg:(w.alloc o).grownBy w2 gv.ownBlock/\((Value.slice l (gs.length+1) c2).ownBlock=gv.ownBlock\/(Value.slice l (gs.length+1) c2).ownBlock=some (w.alloc o).heap.size)) :
  BO w0 (w2.setCell ⟨bb,7,none⟩ (.slice l (gs.length+1) c2)) bb tm nm rb tv nv (.slice l (gs.length+1) c2) {b with R:=b.R++[x]} (gs++[⟨xv,x⟩]) DT DN/\Aj (fun k=>gv.ownBlock=some k\/k=bb) w (w2.setCell ⟨bb,7,none⟩ (.slice l (gs.length+1) c2)):=by
 have hX:Aj (fun k=>gv.ownBlock=some k) w w2:=((Aj.refl _ w).alloc o).next (.Cw hg.1);have I:Aj (fun k=>gv.ownBlock=some k\/k=bb) w (w2.setCell ⟨bb,7,none⟩ (.slice l (gs.length+1) c2)):=(hX.mono (fun a4 hi=>.inl hi)).set (p:=⟨bb,7,none⟩) (.inr (.inr rfl)) _;have U:¬gv.ownBlock=some bb:=CD h.fg h.An (by decide);have J:∀{n:Nat} {v:Value} {T:List Value},w.ownsRow w0.heap.size 9 1 v n T->(w2.setCell ⟨bb,7,none⟩ (.slice l (gs.length+1) c2)).ownsRow w0.heap.size 9 1 v n T:=by
  intro n v T R;refine I.own R ?_;rintro k t (j|rfl)
  ·exact Gd R h.fg (by decide) k t j
  ·exact CD R h.An (by decide) t
 have a2:=h.An.lt;refine⟨⟨?_,?_,J h.ft,J h.fn,?_,by rw[By,h.names];rfl,?_,h.tn,?_,?_,D6 h.mt I ?_,D6 h.mn I ?_,h.pt,h.pn,h.b0,h.b1,h.lt,h.ln,by simp;omega⟩,I⟩
 ·refine h.below.trans (I.below h.below.size ?_)
  rintro k t (j|j)
  ·have:=(BU h.fg k j).1;omega
  ·have:=h.b0.1;omega
 ·simpa using(hX.An h.An U).Bn 7 (.slice l (gs.length+1) c2)
 ·rw[show (gs++[(⟨xv,x⟩:BC)]).length=gs.length+1 by simp,By]
  refine EB ho ?_ _;intro e;rcases hg.2 with P|P
  ·exact U (P▸e)
  ·rw[P]at e;injection e with e;simp at e;omega
 ·intro q i
  rcases mA.1 i with i|i
  ·exact J (h.rows q i)
  ·rw[mS.1 i];exact J hx
 ·intro q i k t C
  rcases mA.1 i with i|i
  ·exact h.tr q i k t C
  ·rw[mS.1 i]at C;exact a1 k C t
 ·intro q i k t C
  rcases mA.1 i with i|i
  ·exact h.nr q i k t C
  ·rw[mS.1 i]at C;exact a0 k C t
 ·rintro(j|j)
  ·exact FQ h.mt h.fg j
  ·exact GJ h.mt h.An j
 ·rintro(j|j)
  ·exact FQ h.mn h.fg j
  ·exact GJ h.mn h.An j
end
section
open Go.RowKit Go.Maps
theorem ZH{w:World}{B g n:Nat}{e:TypeId}{cs:Array Value}(h:Ah w g e cs)(j:B<=g)(i:cs.size=n)(l:n<=maxLen):w.ownsRow B e 1 (.slice (some ⟨g,0,none⟩) n n) n cs.toList:=by refine⟨by simp[i],.inr ⟨g,n,cs,rfl,j,h,AG _,l,by simp[i],?_⟩⟩;rw[Ds (by simp[i])]
theorem Vy:El Tryz.prog 142 30 1 24:=El.of (z:=.slice none 0 0) Tryz.underlying142 (by kernel_rfl) rfl (by decide)
def aN(i w:World)(j C p rb:Nat)(tv nv l:Value)(r:Except Bi Bd)(e:Ending)(w':World):Prop:=
 Below i.heap.size i w'/\match r with
 | .ok b=>e=.returned (.tuple #[])/\∃I t o R P J,BO i w' j C p rb I t o b R P J/\Aj (MW j C p tv nv l) w w'/\BH w tv I/\BH w nv t/\BH w l o
 | .error f=>BS f e
theorem M3{w:World}{B:Nat}{g:Nat}{c:Nat}{l:List Tk}{k:Nat}{t:Tk}(h:w.ownsRow B 201 3 (.slice (some ⟨g,0,none⟩) l.length c) l.length (l.flatMap Tk.cells))(P:l[k]?=some t) :
  w.cell? ⟨g,k*3,none⟩=some (.int .i64 t.k)/\w.cell? ⟨g,k*3+1,none⟩=some (.string (str t.s))/\w.cell? ⟨g,k*3+2,none⟩=some (.int .i64 t.p):=by
 obtain⟨J,R⟩:=sG.1 P;have i:∀j,j<3->(l.flatMap Tk.cells)[k*3+j]?=(Tk.cells t)[j]?:=fun j I=>by rw[CZ Tk.cells 3 Tk.MI l k j J I,R]
 have o:=Bf h (k*3) (by omega);have p:=Bf h (k*3+1) (by omega);have C:=Bf h (k*3+2) (by omega);rw[o,p,C,i 1 (by omega),i 2 (by omega)];have:=i 0 (by omega);rw[Nat.add_zero]at this;rw[this];exact⟨rfl,rfl,rfl⟩
theorem IW{w:World}{B n:Nat}{e:TypeId}{s:Nat}{v:Value}{xs:List Value}(h:w.ownsRow B e s v n xs)(i:0<n):∃g c,v=.slice (some ⟨g,0,none⟩) n c:=by
 rcases Bv h with⟨rfl,h0⟩|⟨g,c,rfl,_⟩
 ·omega
 ·exact⟨g,c,rfl⟩
theorem aP{R w:World}{bb tm nm rb:Nat}{tv nv gv:Value}{b:Bd}{j:List BC}{DT DN:DataW Unit}(h:BO R w bb tm nm rb tv nv gv b j DT DN){B mb:Nat}{tb:Option Nat}{l:List Tk}{x:Bh}{dv kv sv rv:Value}{rs:List Bm}{D:DataW Unit}(hr:DL R B rb mb tb l x dv kv sv rv rs D)(ai:rs.map Bm.r=x.rules)
  (left:AO) (q:GS) (hq:Iz R B q) (aj:∀t∈q.s.l,t.s.length<=8192) (c8:q.s.l.length<=100000) :
  Calls Tryz.prog 124 #[.pointer (some ⟨bb,0,none⟩),.string (str left),.agg #[q.v,.int .i64 q.s.p]] w (aN R w bb tm nm rb tv nv gv (D3 (leftOf x) b left q.s)):=by
 obtain⟨c0,c1,c2,c3,c4,c7,bo⟩:=h.cells;have ay:j.length=b.R.length:=by rw[<-h.names,lM]
 have a1:R.ownsRow B 201 3 q.v q.s.l.length (q.s.l.flatMap Tk.cells):=hq;obtain⟨As,cs,ab⟩:=Bw a1;obtain⟨Ag,cg,rfl⟩:=Bw h.fg;by_cases a3:300<=b.R.length
 ·have q1:(300:Int)<=(j.length:Int):=by omega
  have HE:Hid (D3 (leftOf x) b left q.s=.error (7,q.s.p)):=Hd (by simp[D3,a3]);have HA:=Hd (h.alloc (.cells #[q.v,.int .i64 q.s.p] 211));rw[ab]at HA ⊢;clear h hr ai hq aj a1 ay a3;generalize j.length=n at *;generalize q.s.l.length=n2 at *;go_enter Tryz.func124,Tryz.ntmps124
  go_wp2_with (go_at_call 173;refine(Eg _ _ _).mono ?_;rintro e w' ⟨rfl,a5⟩;subst a5)
  refine⟨rfl,HA.out.below,?_⟩;rw[HE.out];exact BS.of rfl rfl
 ·have q1:¬(300:Int)<=(j.length:Int):=by omega
  have bp:b.R.length<300:=by omega
  have bc:Hid (∀p,DY (leftOf x) b 0 q.s.l=.ok p->p.R=b.R->D3 (leftOf x) b left q.s=if b.R.contains (left::q.s.l.map Tk.s) then .error (8,q.s.p) else .ok {p with R:=p.R++[left::q.s.l.map Tk.s]}):=Hd (fun p o P=>by unfold D3;rw[if_neg a3,o];simp only;rw[P]);have bd:Hid (∀f,DY (leftOf x) b 0 q.s.l=.error f->D3 (leftOf x) b left q.s=.error f):=Hd (fun f o=>by unfold D3;rw[if_neg a3,o]);have b4:=h.below.size;have b3:F5 R w bb tm nm rb tv nv (.slice Ag j.length cg) j (w.heap.size+1+1) w.heap.size q.v q.s.p left [] b tv nv (.slice (some ⟨w.heap.size+1,0,none⟩) 1 1) DT DN (((w.alloc (.cells #[q.v,.int .i64 q.s.p] 211)).alloc (.cells #[.string (str left)] 9)).alloc (.cells #[.slice (some ⟨w.heap.size+1,0,none⟩) 1 1] 30)):=by
   have k1:=Ah.new w 211 #[q.v,.int .i64 q.s.p];have k2:=Ah.new (w.alloc (.cells #[q.v,.int .i64 q.s.p] 211)) 9 #[.string (str left)];have k3:=Ah.new ((w.alloc (.cells #[q.v,.int .i64 q.s.p] 211)).alloc (.cells #[.string (str left)] 9)) 30 #[.slice (some ⟨w.heap.size+1,0,none⟩) 1 1];rw[World.size_alloc]at k2;rw[World.size_alloc,World.size_alloc]at k3;refine⟨((h.alloc _).alloc _).alloc _,k3,(k1.alloc _).alloc _,?_,?_,?_,(((Aj.refl _ w).alloc _).alloc _).alloc _,BH.refl _ _,BH.refl _ _,by omega,AG _,b4,fun k C=>(BU h.fg k C).2,fun q' bq k C=>(BU (h.rows q' bq) k C).2⟩
   ·exact ZH (k2.alloc _) (by omega) rfl (by unfold maxLen;omega)
   ·rintro k C hh
    cases C
    have P:=(BU h.ft _ hh).2;simp at P;omega
   ·rintro k C hh
    cases C
    have P:=(BU h.fn _ hh).2;simp at P;omega
  have ar:=Hd b3;have HH:=Hd h;have HR:=Hd hr;have bh:=Hd ai;have bx:=Hd a1;have bi:=Hd aj;have HL:Hid (∀k t,q.s.l[k]?=some t->∃g c,q.v=.slice (some ⟨g,0,none⟩) q.s.l.length c/\∀w',Below R.heap.size R w'->w'.cell? ⟨g,k*3,none⟩=some (.int .i64 t.k)/\w'.cell? ⟨g,k*3+1,none⟩=some (.string (str t.s))/\w'.cell? ⟨g,k*3+2,none⟩=some (.int .i64 t.p)):=Hd (fun k t U=>by obtain⟨C,_⟩:=sG.1 U;obtain⟨g,c,hv⟩:=IW a1 (by omega);refine⟨g,c,hv,fun w' a5=>?_⟩;have P:=(Aj.AH (X:=fun _=>False) a5).own a1 (fun _ _=>id);rw[hv]at P;exact M3 P U)
  clear h hr ai hq aj a1 b3 ay;have bf:=Hd ab;rw[ab]at ar ⊢;clear ab c0 c1 c2 c3 c4;generalize b1:q.s.l.length=nl at *;have ae:=Hd b1;clear b1;have c6:j.length<=300:=by omega
  have c9:∀(fn:Fn) (first cap:Array Value) (w:World),(Instr.makeFunc fn first cap).run Tryz.prog w=.ok (.func fn first cap) w:=fun _ _ _ _=>rfl
  go_enter Tryz.func124,Tryz.ntmps124
  go_wp2;generalize bu:(((w.alloc (.cells #[.slice As nl cs,.int .i64 q.s.p] 211)).alloc (.cells #[.string (str left)] 9)).alloc (.cells #[.slice (some ⟨w.heap.size+1,0,none⟩) 1 1] 30))=wS at *;generalize cc:w.heap.size+1+1=xb at *;clear bu c7;go_loopw [23] (fun ad wr=>∃(k:Nat) (done:List AO) (p:Bd) (b6 b5 xv:Value) (an al:DataW Unit),k<=nl/\ad=.int .i64 k/\done.length=k/\Hid (F5 R w bb tm nm rb tv nv (.slice Ag j.length cg) j xb w.heap.size (.slice As nl cs) q.s.p left done p b6 b5 xv an al wr)/\Hid (done=(q.s.l.take k).map Tk.s)/\Hid (DY (leftOf x) b 0 q.s.l=DY (leftOf x) p k (q.s.l.drop k))/\Hid (p.R=b.R)) (fun ad _=>nl-(intOf ad).toNat)
  case atStart=>exact⟨0,[],b,tv,nv,_,DT,DN,AP _,rfl,rfl,ar,Hd rfl,Hd rfl,Hd rfl⟩
  case round=>
   obtain⟨_,done,p,b6,b5,xv,an,al,C,rfl,rfl,I,HD,HY,a6⟩:=hrel;by_cases b0:done.length<nl
   ·obtain⟨t,U⟩:∃t,q.s.l[done.length]?=some t:=⟨_,eG (by rw[ae.out];exact b0)⟩
    obtain⟨g,c,az,aw⟩:=HL.out done.length t U;obtain⟨e0,e1,e2⟩:=aw wr I.out.at_.below;rw[bf.out]at az;cases az
    have ax:q.s.l.drop done.length=t::q.s.l.drop (done.length+1):=by obtain⟨ag,e⟩:=sG.1 U;rw[List.drop_eq_getElem_cons ag,e]
    have ba:Hid (done++[t.s]=(q.s.l.take (done.length+1)).map Tk.s):=Hd (by obtain⟨ag,e⟩:=sG.1 U;have o:=HD.out;rw[List.take_succ_eq_append_getElem ag,e,By,<-o];rfl)
    have bt:=bi.out t (mG U);have af:=Hd (I.out.alloc (.cells #[.int .i64 t.k,.string (str t.s),.int .i64 t.p] 201));have a9:=Hd (Wg af.out.at_ HR.out bh.out t bt done.length (done.length:Int) rfl);have ao:=Hd (Ah.new wr 201 #[.int .i64 t.k,.string (str t.s),.int .i64 t.p]);have au:Hid (∀r,D0 (leftOf x) p t done.length=r->DY (leftOf x) b 0 q.s.l=match r with | .error e=>.error e | .ok b2=>DY (leftOf x) b2 (done.length+1) (q.s.l.drop (done.length+1))):=Hd (fun r hr=>by rw[HY.out,ax,DY,hr];cases r<;>rfl);clear U aw ax
    obtain⟨Ax,cx,ak⟩:=Bw I.out.own;subst ak;cases i:D0 (leftOf x) p t done.length with
    | error f=>
     have HE:=Hd (bd.out f (au.out _ i));rw[i]at a9;clear i;go_wp2_with (go_at_call 175;refine a9.out.mono ?_;intro e w2 hx;obtain⟨a0,hx⟩:=hx;have hx:e=_:=hx;subst hx)
     refine⟨rfl,a0,?_⟩;rw[HE.out];exact BS.of rfl rfl
    | ok b2=>
     have bl:=Hd (au.out _ i);have b9:Hid (b2.R=b.R):=Hd (by
      have o:=a6.out;unfold D0 at i;split at i
      ·cases i
      split at i
      ·injection i with i;rw[<-i];exact o
      split at i
      ·split at i
       · cases i
       · injection i with i;rw[<-i];exact o
      split at i
      ·injection i with i;rw[<-i];exact o
      ·cases i)
     rw[i]at a9;clear i;have ca:=I.out.Aw.size;go_wp2_with (first
      | (
        go_at_call 175;refine a9.out.mono ?_;intro e w2 hx;obtain⟨a0,rfl,bw,bv,b8,b7,z1,z2,z3,z4⟩:=hx
        have a2:=Hd (af.out.sym z1 z2 z3 z4);have bk:=Hd (z2.An ao.out (J3 af.out.at_ ao.out (by decide) (by decide)));have x1:=bk.out.cell 1;have y0:=a2.out.box.cell 0;have y1:=a2.out.box.frozen 0;have br:=z2.size;simp at x1 y0 br;clear a0 z1 z2 z3 z4)
      | (
        at_builtin;refine DA Nc (.tmp 32) (.tmp 35) rfl rfl (base:=w.heap.size) (n:=done.length+1) (m:=1) (N:=done.length+1+1) (xs:=(left::done).map Nv) (news:=[Nv t.s]) rfl rfl (a2.out.own.alloc _) (N8 w2 _) rfl (by unfold maxLen;omega) (by omega) (by simp;omega) ?_
        intro A3 c3 w3 r1 r2 r3;have HF:=Hd (a2.out.app r1 r3);have ah:=r2.An (a2.out.box.alloc _) (.inr (by decide));have z0:=ah.cell 0;have zf:=ah.frozen 0;simp at z0;clear r1 r2 r3 ah))
     go_roundw
     case rel=>exact⟨done.length+1,done++[t.s],b2,bw,bv,_,b8,b7,by omega,by go_num,by simp,HF,ba,bl,b9⟩
     case measure=>simp[intOf];omega
   ·obtain rfl:nl=done.length:=by omega
    have HX:Hid (done=q.s.l.map Tk.s):=Hd (by have o:=HD.out;rw[Ds (by have:=ae.out;omega)]at o;exact o)
    have bj:Hid (DY (leftOf x) b 0 q.s.l=.ok p):=Hd (by have o:=HY.out;rw[List.drop_of_length_le (by have:=ae.out;omega)]at o;exact o)
    have a8:=Hd (YB I.out.at_.fg (fun l=>(left::done)==l) 177 #[.pointer (some ⟨xb,0,none⟩)] (fun _ _=>by kernel_rfl) (fun u hu y hy=>by have o:=I.out.later hy;refine(Yv (p:=⟨xb,0,none⟩) (a:=left::done) o.own (o.at_.rows u hu) (o.box.cell 0)).mono ?_;rintro e w' ⟨P,n,rfl⟩;exact⟨P,⟨rfl,rfl,rfl,AG _,fun _ _=>rfl⟩⟩))
    have a7:Hid (b.R.contains (left::q.s.l.map Tk.s)=(j.map BC.l).any fun l=>(left::done)==l):=Hd (by rw[I.out.at_.names,a6.out,<-HX.out];exact List.contains_eq_any_beq)
    have aq:=Hd (bc.out p bj.out a6.out);have bn:p.R.length<300:=by rw[a6.out];exact bp
    obtain⟨Ax,cx,ak⟩:=Bw I.out.own;subst ak;obtain⟨c0,c1,c2,c3,c4,c7,av⟩:=I.out.at_.cells;clear b0 bo a3;cases aa:(j.map BC.l).any fun l=>(left::done)==l with
    | true=>
     rw[aa]at a8 a7;clear aa;have HE:Hid (D3 (leftOf x) b left q.s=.error (8,q.s.p)):=Hd (by rw[aq.out,a7.out];rfl);go_wp2_with (first
      | (
        go_at_call 176;refine a8.out.mono ?_;rintro e w3 ⟨rfl,a4⟩
        have T:=Hd (I.out.later a4);have y1:=T.out.Ju.cell 1;simp at y1;clear a4)
      | (go_at_call 173;refine(Eg _ _ _).mono ?_;rintro e w' ⟨rfl,a5⟩;subst a5))
     refine⟨rfl,T.out.at_.below,?_⟩;rw[HE.out];exact BS.of rfl rfl
    | false=>
     rw[aa]at a8 a7;clear aa;have HE:Hid (D3 (leftOf x) b left q.s=.ok {p with R:=p.R++[left::done]}):=Hd (by rw[aq.out,a7.out,<-HX.out];rfl);go_wp2_with (
          go_at_call 176;refine a8.out.mono ?_;rintro e w3 ⟨rfl,a4⟩
          have T:=Hd (I.out.later a4);clear a4)
     clear c0 c1 c2 c3 c4 c7 av;obtain⟨c0,c1,c2,c3,c4,c7,av⟩:=T.out.at_.cells;have y0:=T.out.box.cell 0;simp at y0;have cd:=T.out.box.lt;have J:=Hd T.out.drew;have cb:=T.out.Aw.size;have bz:=j.length;go_region_law (go_loud (
           refine Ep Vy (.tmp 51) (.tmp 53) ?_ ?_ (base:=R.heap.size) (n:=j.length) (m:=1) (N:=j.length+1) (v:=.slice Ag j.length cg) (src:=.slice (some ⟨w3.heap.size,0,none⟩) 1 1) (xs:=j.map BC.v) (news:=[.slice Ax (done.length+1) cx]) ?_ ?_ ?_ ?_ ?_ ?_ ?_ ?_ ?_
           ·rfl
           ·rfl
           ·rfl
           ·rfl
           ·exact J.out.at_.fg.alloc _
           ·exact Bc.An (c:=1) (Ah.new w3.drew 30 #[.slice Ax (done.length+1) cx]) rfl (by simp[Value.oneCell'])
           ·rfl
           ·unfold maxLen;omega
           ·omega
           ·simp;omega
           intro A4 bm w4 q1 q2 q3;have HF:=Hd (iE (x:=left::done) J.out.at_ (Ig J.out.own b4) J.out.xt J.out.xn bn q1 q3);have be:Hid (BH w (.slice Ag j.length cg) (.slice A4 (j.length+1) bm)):=Hd (fun k C=>by
            rcases q3.2 with e|e
            ·exact .inl (e▸C)
            ·rw[e]at C;cases C;exact .inr (by simp;omega))
           have hX:Aj (fun k=>(Value.slice Ag j.length cg).ownBlock=some k) w3.drew w4:=((Aj.refl _ w3.drew).alloc (.cells #[.slice Ax (done.length+1) cx] 30)).next (.Cw q3.1);have a0:=hX.An J.out.at_.An (CD J.out.at_.fg J.out.at_.An (by decide));have z7:=a0.cell 7;have zf:=a0.frozen 7;simp at z7;clear q1 q2 q3 hX a0))
     all_goals go_wp2
     all_goals go_end0
     all_goals refine⟨HF.out.1.below,?_⟩
     all_goals rw[HE.out]
     all_goals refine⟨rfl,_,_,_,_,_,_,HF.out.1,?_,J.out.nt,J.out.nn,be.out⟩
     all_goals exact(J.out.Aw.mono (fun _ h=>.inl h)).next (HF.out.2.mono (fun ad hi=>hi.elim .inr (fun h=>.inl (.inl h))))
end
section
open Go.RowKit Go.Maps
def GQ(b:Bd):Except Bi (List AO)->Except Bi Bd
 | .ok T=>.ok {b with T:=T}
 | .error f=>.error f
theorem Oa{b:Bd}{t:Tk}(i:t.s ∉ b.T):GY b t=match Cr b.T t with | .error e=>.error e | .ok T=>.ok {b with T:=T}:=by
 unfold GY Cr;rw[if_neg (show ¬b.T.contains t.s=true by simpa using i)];by_cases h:120<=b.T.length
 ·rw[if_pos h,if_pos h]
 ·rw[if_neg h,if_neg h]
theorem OP{x:Bh}{m:Nat}{st:Tk}(h:BW x=some (m,st)):(∃r,x.marks=m::r)/\∃r,x.starts=st::r:=by
 unfold BW at h;split at h
 ·rename_i l o
  injection h with h;injection h with i j;subst i;subst j;exact⟨⟨_,l⟩,⟨_,o⟩⟩
 ·cases h
theorem Zn{x:Bh}(j:x.marks.length=x.starts.length)(h:BW x=none):x.starts.length=0:=by
 unfold BW at h;split at h
 ·cases h
 ·rename_i l
  cases i:x.marks with
  | nil=>rw[i]at j;simpa using j.symm
  | cons a r=>
   cases o:x.starts with
   | nil=>rfl
   | cons s q=>exact absurd o (fun e=>l a r s q i e)
theorem N7{T w:World}{i R P rb:Nat}{tv nv C:Value}{b:Bd}{p:List BC}{l j:DataW Unit}(h:BO T w i R P rb tv nv C b p l j)(t:Tk)(I:120<=b.T.length) :
  Calls Tryz.prog 207 #[.pointer (some ⟨i,0,none⟩),.agg #[.int .i64 t.k,.string (str t.s),.int .i64 t.p]] w fun e w'=>BS (7,t.p) e/\Below w.heap.size w w':=by
 obtain⟨A,c,rfl⟩:=Bw h.ft;have o:=Hd (Ay w (.cells #[.int .i64 t.k,.string (str t.s),.int .i64 t.p] 201));obtain⟨U,c1,c2,c3,c4,c7,a0⟩:=h.cells;have q1:(120:Int)<=(b.T.length:Int):=by omega
 clear h I;generalize b.T.length=n at *;go_enter Tryz.func207,Tryz.ntmps207
 go_wp2_with (go_at_call 173;refine(Eg _ _ _).mono ?_;rintro e w' ⟨rfl,J⟩;subst J)
 exact⟨rfl,BS.of rfl rfl,o.out⟩
def Vz(R w:World)(j o l rb:Nat)(tv nv I:Value)(C:List BC)(r:Except Bi Bd)(e:Ending)(w':World):Prop:=
 ∃i P J t p,BO R w' j o l rb P J I i C t p/\Aj (DE j o l tv nv) w w'/\match r with
 | .ok b=>e=.returned (.tuple #[])/\i=b
 | .error f=>BS f e
theorem Yb{w0 w:World}{bb tm nm rb:Nat}{tv nv gv:Value}{b:Bd}{gs:List BC}{DT DN:DataW Unit}(h:BO w0 w bb tm nm rb tv nv gv b gs DT DN){B mb:Nat}{tb:Option Nat}{l:List Tk}{x:Bh}{dv kv sv rv:Value}{rs:List Bm}{D:DataW Unit}(hr:DL w0 B rb mb tb l x dv kv sv rv rs D)(br:rs.map Bm.r=x.rules)
  (bt:x.marks.length=x.starts.length) (bu:∀t∈x.decl,t.s.length<=8192) (bv:∀t∈x.starts,t.s.length<=8192) :
  Calls Tryz.prog 174 #[.pointer (some ⟨bb,0,none⟩)] w (Vz w0 w bb tm nm rb tv nv gv gs (GQ b (BA (leftOf x) (BW x) x.decl b.T))):=by
 obtain⟨c0,c1,c2,c3,c4,c7,aa⟩:=h.cells;obtain⟨k1,k2,k3,_,_,_⟩:=(hr.later h.below).Bp.AW.cells;have bz:Hid (∀J,Below w0.heap.size w0 J->J.cell? ⟨rb,2,none⟩=some kv/\J.cell? ⟨rb,3,none⟩=some sv):=Hd (fun J hb=>by obtain⟨_,a2,a3,_,_,_⟩:=(hr.later hb).Bp.AW.cells;exact⟨a2,a3⟩)
 obtain⟨As,cs,bw⟩:=Bw hr.Bp.starts;obtain⟨Ad,cd,bp⟩:=Bw hr.Bp.decl;have HL:Hid (∀k t,x.decl[k]?=some t->∃g c,dv=.slice (some ⟨g,0,none⟩) x.decl.length c/\∀J,Below w0.heap.size w0 J->J.cell? ⟨g,k*3,none⟩=some (.int .i64 t.k)/\J.cell? ⟨g,k*3+1,none⟩=some (.string (str t.s))/\J.cell? ⟨g,k*3+2,none⟩=some (.int .i64 t.p)):=Hd (fun k t ht=>by obtain⟨hk,_⟩:=sG.1 ht;obtain⟨g,c,hv⟩:=IW hr.Bp.decl (by omega);refine⟨g,c,hv,fun J a9=>?_⟩;have h2:=(Aj.AH (X:=fun _=>False) a9).own hr.Bp.decl (fun _ _=>id);rw[hv]at h2;exact M3 h2 ht)
 have HM:Hid (∀m U,BW x=some (m,U)->∃g c,kv=.slice (some ⟨g,0,none⟩) x.marks.length c/\0<x.marks.length/\∀J,Below w0.heap.size w0 J->J.cell? ⟨g,0,none⟩=some (.int .i64 m)):=Hd (fun m U P=>by
  obtain⟨⟨r,e1⟩,r2,e2⟩:=OP P;have b9:0<x.marks.length:=by rw[e1];simp
  obtain⟨g,c,hv⟩:=IW hr.Bp.marks b9;refine⟨g,c,hv,b9,fun J a9=>?_⟩;have h2:=(Aj.AH (X:=fun _=>False) a9).own hr.Bp.marks (fun _ _=>id);rw[hv]at h2;have:=Bf h2 0 (by omega);rw[this,e1];rfl)
 have bl:Hid (∀m U,BW x=some (m,U)->∀J,Below w0.heap.size w0 J->J.cell? ⟨bb,0,none⟩=some (.pointer (some ⟨rb,0,none⟩))->Calls Tryz.prog 206 #[.pointer (some ⟨bb,0,none⟩)] J (Tz J (Es (leftOf x) U))):=Hd (fun m U P J a9 p=>by obtain⟨_,r2,e2⟩:=OP P;exact Zo (hr.later a9) p br e2 (bv U (by rw[e2];simp)))
 have c9:Hid ((BW x=none/\x.starts.length=0)\/(BW x≠none/\0<x.starts.length)):=Hd (by
  cases P:BW x with
  | none=>exact .inl ⟨rfl,Zn bt P⟩
  | some al=>obtain⟨_,r2,e2⟩:=OP (m:=al.1) (st:=al.2) P;exact .inr ⟨by simp,by rw[e2];simp⟩)
 have c6:Hid (∀t∈x.decl,t.s.length<=8192):=Hd bu;have ct:x.decl.length<=100000:=by have:=hr.Bp.ld;omega
 have cl:x.starts.length<=100000:=by have:=hr.Bp.ls;omega
 have cu:x.marks.length<=100000:=by have:=hr.Bp.lm;omega
 have HH:=Hd h;have ca:=Hd bw;have c8:=Hd bp;clear h hr br bt bu bv c1 c2 c3 c4 c7;subst bw;subst bp;clear ca c8;generalize bq:x.decl.length=nd at *;generalize cm:x.starts.length=ns at *;generalize ck:x.marks.length=nk at *;have bk:=Hd bq;clear bq cm ck;go_enter Tryz.func174,Tryz.ntmps174
 go_wp2;go_loopw [2,20] (fun U ad wr=>∃(k:Nat) (ak:Option (Nat×Tk)) (n':Nat) (A':Option Addr) (c':Nat) (o:Bd) (bf be:Value) (bi bh:DataW Unit),k<=nd/\ad=.int .i64 k/\U=.slice A' n' c'/\n'<=100000/\Hid ((ak=none/\n'=0)\/(ak=BW x/\ak≠none/\0<n'))/\Hid (BO w0 wr bb tm nm rb bf be gv o gs bi bh)/\Hid (Aj (DE bb tm nm tv nv) w wr/\BH w tv bf/\BH w nv be)/\Hid (BA (leftOf x) (BW x) x.decl b.T=BA (leftOf x) ak (x.decl.drop k) o.T)/\Hid (o.N=b.N/\o.R=b.R)) (fun _ ad _=>nd-(intOf ad).toNat)
 case atStart=>exact⟨0,BW x,ns,_,_,b,tv,nv,DT,DN,AP _,rfl,rfl,cl,Hd (c9.out.imp id (fun h=>⟨rfl,h.1,h.2⟩)),HH,Hd ⟨Aj.refl _ _,BH.refl _ _,BH.refl _ _⟩,Hd rfl,Hd ⟨rfl,rfl⟩⟩
 case round=>
  obtain⟨k,ak,n',A',c',o,bf,be,bi,bh,hk,rfl,rfl,cr,HO,HA,HC,HY,b7⟩:=hrel;clear c0 k1 k2 k3 aa;obtain⟨c0,c1,c2,c3,c4,c7,aa⟩:=HA.out.cells;by_cases b9:k<nd
  ·obtain⟨t,ht⟩:∃t,x.decl[k]?=some t:=⟨_,eG (by rw[bk.out];exact b9)⟩
   obtain⟨g,c,cf,bm⟩:=HL.out k t ht;obtain⟨e0,e1,e2⟩:=bm wr HA.out.below;cases cf
   have a1:=c6.out t (mG ht);have bo:x.decl.drop k=t::x.decl.drop (k+1):=by obtain⟨cg,e⟩:=sG.1 ht;rw[List.drop_eq_getElem_cons cg,e]
   have ar:Hid (BA (leftOf x) (BW x) x.decl b.T=BA (leftOf x) ak (t::x.decl.drop (k+1)) o.T):=Hd (by rw[HY.out,bo]);clear ht bm bo;have ab:=Hd (Ah.new wr 201 #[.int .i64 t.k,.string (str t.s),.int .i64 t.p]);have a6:=Hd (HA.out.alloc (.cells #[.int .i64 t.k,.string (str t.s),.int .i64 t.p] 201));have aq:=Hd (HC.out.1.alloc (.cells #[.int .i64 t.k,.string (str t.s),.int .i64 t.p] 201));have bd:wr.heap.size<(wr.alloc (.cells #[.int .i64 t.k,.string (str t.s),.int .i64 t.p] 201)).heap.size:=by simp
   generalize cn:(wr.alloc (.cells #[.int .i64 t.k,.string (str t.s),.int .i64 t.p] 201))=w1 at *;have ba:=Hd cn;clear c0 c1 c2 c3 c4 c7 aa;obtain⟨c0,c1,c2,c3,c4,c7,aa⟩:=a6.out.cells;obtain⟨k2,k3⟩:=bz.out w1 a6.out.below;have x0:=ab.out.cell 0;have x1:=ab.out.cell 1;have x2:=ab.out.cell 2;simp at x0 x1 x2;rcases HO.out with⟨ho,av⟩|⟨ho,aw,av⟩
   ·subst av
    go_wp2
    go_region
    go_wp2;obtain⟨T,R,A2,a8,ah,b6,b0,af⟩:∃(T:Option (Nat×Tk)) (R:Nat) (A2:Option Addr) (a8:Nat),Value.slice A' 0 c'=.slice A2 R a8/\R<=100000/\Hid ((T=none/\R=0)\/(T=BW x/\T≠none/\0<R))/\Hid (∀r,Cr o.T t=r->BA (leftOf x) (BW x) x.decl b.T=match r with | .error e=>.error e | .ok T'=>BA (leftOf x) T (x.decl.drop (k+1)) T'):=
     ⟨none,0,A',c',rfl,by omega,Hd (.inl ⟨rfl,rfl⟩),Hd (fun r hr=>by rw[ar.out,ho,BA,hr];cases r<;>rfl)⟩
    rw[ah];clear ah;have I:=Hd a6.out.drew;have a4:=Hd (((Aj.refl (fun _=>False) w1).drew).An ab.out id);have a0:=Hd aq.out.drew;clear c0 c1 c2 c3 c4 c7 aa x0 x1 x2 k2 k3 e0 e1 e2;generalize w1.drew=wz at *;have ae:Hid (∀r,Cr o.T t=r->∀f,r=.error f->GQ b (BA (leftOf x) (BW x) x.decl b.T)=.error f):=Hd (fun r h1 f h2=>by rw[af.out _ h1,h2];rfl);clear HA HY ar a6 ab aq ba HO bd;obtain⟨c0,c1,c2,c3,c4,c7,aa⟩:=I.out.cells;have x0:=a4.out.cell 0;have x1:=a4.out.cell 1;have x2:=a4.out.cell 2;simp at x0 x1 x2;have ai:=Ko I.out.drew.mt I.out.pt a1
    have bx:=a4.out.lt;generalize wr.heap.size=xb at *;by_cases p:t.s∈o.T
    ·have HE:=Hd (ae.out (.error (8,t.p)) (by unfold Cr;rw[if_pos (by simpa using p)]) (8,t.p) rfl)
     rw[if_pos p]at ai;have b5:o.T.idxOf t.s+1≠0:=by omega
     generalize o.T.idxOf t.s+1=n1 at *;have q2:(0:Int)<(n1:Int):=by
      rcases Nat.eq_zero_or_pos n1 with e|e
      ·exact absurd b5 (by omega)
      ·omega
     clear p a1
     go_region
     go_wp2_with (go_at_call 173;refine(Eg _ _ _).mono ?_;rintro e J ⟨rfl,a9⟩;subst a9)
     refine⟨rfl,_,_,_,_,_,I.out.drew,a0.out.drew,?_⟩;rw[HE.out];exact BS.of rfl rfl
    ·rw[if_neg p,show ((0:Nat):Int)=0 from rfl]at ai
     have a7:=Hd (MF I.out.drew t a1 p);have a5:=Oa p;cases j:Cr o.T t with
     | error f=>
      obtain⟨hf,ag⟩:f=(7,t.p)/\120<=o.T.length:=by
       unfold Cr at j;rw[if_neg (by simpa using p)]at j;split at j
       ·rename_i h
        injection j with j;exact⟨j.symm,h⟩
       ·cases j
      subst hf;have b1:=Hd (N7 I.out.drew t ag);have HE:=Hd (ae.out _ j _ rfl);clear a5 j p a1 a7 ag
      go_region
      go_wp2_with (go_at_call 207;refine b1.out.mono ?_;intro e w2 i;obtain⟨i,C⟩:=i;have i:e=_:=i;subst i)
      refine⟨rfl,_,_,_,_,_,I.out.drew.Aw (.AH (X:=fun _=>False) C) (fun _ _=>id),a0.out.drew.next (.AH C),?_⟩;rw[HE.out];exact BS.of rfl rfl
     | ok T2=>
      rw[j]at a5;rw[a5]at a7;have b2:=Hd (af.out _ j);clear a5 j p a1
      go_region
      go_wp2_with (
           go_at_call 207;refine a7.out.mono ?_;intro e w2 i;obtain⟨C,rfl,an,aj,ay,ax,z1,z2,z3,z4⟩:=i
           have b3:=Hd z1;have b4:Hid (Aj (DE bb tm nm tv nv) w w2/\BH w tv an/\BH w nv aj):=Hd ⟨a0.out.drew.trans z2 (fun ad hi=>HC.out.2.1.bJ HC.out.2.2 ad hi),HC.out.2.1.next z3 a0.out.drew.size,HC.out.2.2.next z4 a0.out.drew.size⟩;clear C z1 z2 z3 z4)
      go_roundw
      case rel=>exact⟨k+1,T,R,A2,a8,_,an,aj,ay,ax,by omega,by go_num,rfl,b6,b0,b3,b4,b2,b7⟩
      case measure=>simp[intOf];omega
   ·obtain⟨m,U,P⟩:∃m U,BW x=some (m,U):=by
     cases P:BW x with
     | none=>exact absurd (ho.trans P) aw
     | some al=>exact⟨al.1,al.2,rfl⟩
    obtain⟨g2,cc,ch,cq,bn⟩:=HM.out m U P;have m0:=bn w1 a6.out.below;cases ch
    have HU:=Hd (bl.out m U P w1.drew a6.out.drew.below a6.out.drew.cells.1);have cj:(0:Int)<(n':Int):=by omega
    have cp:(0:Int)<(nk:Int):=by omega
    have b8:=Hd P;have az:=Hd ho;clear P ho aw bn;by_cases au:m<t.p
    ·have q1:(m:Int)<(t.p:Int):=by omega
     cases hs:Es (leftOf x) U with
     | error f=>
      rw[hs]at HU;have HE:Hid (GQ b (BA (leftOf x) (BW x) x.decl b.T)=.error f):=Hd (by rw[ar.out,az.out,b8.out,BA,if_pos au,hs];rfl);clear hs au;go_wp2
      go_region
      go_wp2_with (go_at_call 206;refine HU.out.mono ?_;intro e w2 i;obtain⟨C,i⟩:=i;have i:e=_:=i;subst i)
      refine⟨rfl,_,_,_,_,_,a6.out.drew.Aw (.AH (X:=fun _=>False) C) (fun _ _=>id),aq.out.drew.next (.AH C),?_⟩;rw[HE.out];exact BS.of rfl rfl
     | ok uu=>
      rw[hs]at HU;have cb:Hid (∀r,Cr o.T t=r->BA (leftOf x) (BW x) x.decl b.T=match r with | .error e=>.error e | .ok T'=>BA (leftOf x) none (x.decl.drop (k+1)) T'):=Hd (fun r hr=>by rw[ar.out,az.out,b8.out,BA,if_pos au,hs];simp only;rw[hr];cases r<;>rfl);clear hs au;go_wp2
      go_region
      go_wp2_with (go_at_call 206;refine HU.out.mono ?_;intro e wz i;obtain⟨C,rfl⟩:=i;have ao:=Hd C;clear C)
      obtain⟨T,R,A2,a8,ah,b6,b0,af⟩:∃(T:Option (Nat×Tk)) (R:Nat) (A2:Option Addr) (a8:Nat),Value.slice none 0 0=.slice A2 R a8/\R<=100000/\Hid ((T=none/\R=0)\/(T=BW x/\T≠none/\0<R))/\Hid (∀r,Cr o.T t=r->BA (leftOf x) (BW x) x.decl b.T=match r with | .error e=>.error e | .ok T'=>BA (leftOf x) T (x.decl.drop (k+1)) T'):=
       ⟨none,0,none,0,rfl,by omega,Hd (.inl ⟨rfl,rfl⟩),cb⟩
      rw[ah];clear ah;have I:=Hd (a6.out.drew.Aw (.AH (X:=fun _=>False) ao.out) (fun _ _=>id));have a4:=Hd (((Aj.refl (fun _=>False) w1).drew.next (.AH ao.out)).An ab.out id);have a0:=Hd (aq.out.drew.next (.AH ao.out));clear c0 c1 c2 c3 c4 c7 aa x0 x1 x2 k2 k3 e0 e1 e2 HU ao;have ae:Hid (∀r,Cr o.T t=r->∀f,r=.error f->GQ b (BA (leftOf x) (BW x) x.decl b.T)=.error f):=Hd (fun r h1 f h2=>by rw[af.out _ h1,h2];rfl);clear HA HY ar a6 ab aq ba HO bd;obtain⟨c0,c1,c2,c3,c4,c7,aa⟩:=I.out.cells;have x0:=a4.out.cell 0;have x1:=a4.out.cell 1
      have x2:=a4.out.cell 2;simp at x0 x1 x2;have ai:=Ko I.out.drew.mt I.out.pt a1;have bx:=a4.out.lt;generalize wr.heap.size=xb at *;by_cases p:t.s∈o.T
      ·have HE:=Hd (ae.out (.error (8,t.p)) (by unfold Cr;rw[if_pos (by simpa using p)]) (8,t.p) rfl)
       rw[if_pos p]at ai;have b5:o.T.idxOf t.s+1≠0:=by omega
       generalize o.T.idxOf t.s+1=n1 at *;have q2:(0:Int)<(n1:Int):=by
        rcases Nat.eq_zero_or_pos n1 with e|e
        ·exact absurd b5 (by omega)
        ·omega
       clear p a1
       go_region
       go_wp2_with (go_at_call 173;refine(Eg _ _ _).mono ?_;rintro e J ⟨rfl,a9⟩;subst a9)
       refine⟨rfl,_,_,_,_,_,I.out.drew,a0.out.drew,?_⟩;rw[HE.out];exact BS.of rfl rfl
      ·rw[if_neg p,show ((0:Nat):Int)=0 from rfl]at ai
       have a7:=Hd (MF I.out.drew t a1 p);have a5:=Oa p;cases j:Cr o.T t with
       | error f=>
        obtain⟨hf,ag⟩:f=(7,t.p)/\120<=o.T.length:=by
         unfold Cr at j;rw[if_neg (by simpa using p)]at j;split at j
         ·rename_i h
          injection j with j;exact⟨j.symm,h⟩
         ·cases j
        subst hf;have b1:=Hd (N7 I.out.drew t ag);have HE:=Hd (ae.out _ j _ rfl);clear a5 j p a1 a7 ag
        go_region
        go_wp2_with (go_at_call 207;refine b1.out.mono ?_;intro e w2 i;obtain⟨i,C⟩:=i;have i:e=_:=i;subst i)
        refine⟨rfl,_,_,_,_,_,I.out.drew.Aw (.AH (X:=fun _=>False) C) (fun _ _=>id),a0.out.drew.next (.AH C),?_⟩;rw[HE.out];exact BS.of rfl rfl
       | ok T2=>
        rw[j]at a5;rw[a5]at a7;have b2:=Hd (af.out _ j);clear a5 j p a1
        go_region
        go_wp2_with (
             go_at_call 207;refine a7.out.mono ?_;intro e w2 i;obtain⟨C,rfl,an,aj,ay,ax,z1,z2,z3,z4⟩:=i
             have b3:=Hd z1;have b4:Hid (Aj (DE bb tm nm tv nv) w w2/\BH w tv an/\BH w nv aj):=Hd ⟨a0.out.drew.trans z2 (fun ad hi=>HC.out.2.1.bJ HC.out.2.2 ad hi),HC.out.2.1.next z3 a0.out.drew.size,HC.out.2.2.next z4 a0.out.drew.size⟩;clear C z1 z2 z3 z4)
        go_roundw
        case rel=>exact⟨k+1,T,R,A2,a8,_,an,aj,ay,ax,by omega,by go_num,rfl,b6,b0,b3,b4,b2,b7⟩
        case measure=>simp[intOf];omega
    ·have q1:¬(m:Int)<(t.p:Int):=by omega
     go_wp2
     go_region
     go_wp2;obtain⟨T,R,A2,a8,ah,b6,b0,af⟩:∃(T:Option (Nat×Tk)) (R:Nat) (A2:Option Addr) (a8:Nat),Value.slice A' n' c'=.slice A2 R a8/\R<=100000/\Hid ((T=none/\R=0)\/(T=BW x/\T≠none/\0<R))/\Hid (∀r,Cr o.T t=r->BA (leftOf x) (BW x) x.decl b.T=match r with | .error e=>.error e | .ok T'=>BA (leftOf x) T (x.decl.drop (k+1)) T'):=
      ⟨ak,n',A',c',rfl,by omega,Hd (.inr ⟨az.out,by rw[az.out,b8.out];simp,av⟩),Hd (fun r hr=>by rw[ar.out,az.out,b8.out,BA,if_neg au,hr];cases r<;>rfl)⟩
     rw[ah];clear ah au;have I:=Hd a6.out.drew;have a4:=Hd (((Aj.refl (fun _=>False) w1).drew).An ab.out id);have a0:=Hd aq.out.drew;clear c0 c1 c2 c3 c4 c7 aa x0 x1 x2 k2 k3 e0 e1 e2 HU;generalize w1.drew=wz at *;have ae:Hid (∀r,Cr o.T t=r->∀f,r=.error f->GQ b (BA (leftOf x) (BW x) x.decl b.T)=.error f):=Hd (fun r h1 f h2=>by rw[af.out _ h1,h2];rfl);clear HA HY ar a6 ab aq ba HO bd;obtain⟨c0,c1,c2,c3,c4,c7,aa⟩:=I.out.cells;have x0:=a4.out.cell 0;have x1:=a4.out.cell 1;have x2:=a4.out.cell 2;simp at x0 x1 x2;have ai:=Ko I.out.drew.mt I.out.pt a1
     have bx:=a4.out.lt;generalize wr.heap.size=xb at *;by_cases p:t.s∈o.T
     ·have HE:=Hd (ae.out (.error (8,t.p)) (by unfold Cr;rw[if_pos (by simpa using p)]) (8,t.p) rfl)
      rw[if_pos p]at ai;have b5:o.T.idxOf t.s+1≠0:=by omega
      generalize o.T.idxOf t.s+1=n1 at *;have q2:(0:Int)<(n1:Int):=by
       rcases Nat.eq_zero_or_pos n1 with e|e
       ·exact absurd b5 (by omega)
       ·omega
      clear p a1
      go_region
      go_wp2_with (go_at_call 173;refine(Eg _ _ _).mono ?_;rintro e J ⟨rfl,a9⟩;subst a9)
      refine⟨rfl,_,_,_,_,_,I.out.drew,a0.out.drew,?_⟩;rw[HE.out];exact BS.of rfl rfl
     ·rw[if_neg p,show ((0:Nat):Int)=0 from rfl]at ai
      have a7:=Hd (MF I.out.drew t a1 p);have a5:=Oa p;cases j:Cr o.T t with
      | error f=>
       obtain⟨hf,ag⟩:f=(7,t.p)/\120<=o.T.length:=by
        unfold Cr at j;rw[if_neg (by simpa using p)]at j;split at j
        ·rename_i h
         injection j with j;exact⟨j.symm,h⟩
        ·cases j
       subst hf;have b1:=Hd (N7 I.out.drew t ag);have HE:=Hd (ae.out _ j _ rfl);clear a5 j p a1 a7 ag
       go_region
       go_wp2_with (go_at_call 207;refine b1.out.mono ?_;intro e w2 i;obtain⟨i,C⟩:=i;have i:e=_:=i;subst i)
       refine⟨rfl,_,_,_,_,_,I.out.drew.Aw (.AH (X:=fun _=>False) C) (fun _ _=>id),a0.out.drew.next (.AH C),?_⟩;rw[HE.out];exact BS.of rfl rfl
      | ok T2=>
       rw[j]at a5;rw[a5]at a7;have b2:=Hd (af.out _ j);clear a5 j p a1
       go_region
       go_wp2_with (
            go_at_call 207;refine a7.out.mono ?_;intro e w2 i;obtain⟨C,rfl,an,aj,ay,ax,z1,z2,z3,z4⟩:=i
            have b3:=Hd z1;have b4:Hid (Aj (DE bb tm nm tv nv) w w2/\BH w tv an/\BH w nv aj):=Hd ⟨a0.out.drew.trans z2 (fun ad hi=>HC.out.2.1.bJ HC.out.2.2 ad hi),HC.out.2.1.next z3 a0.out.drew.size,HC.out.2.2.next z4 a0.out.drew.size⟩;clear C z1 z2 z3 z4)
       go_roundw
       case rel=>exact⟨k+1,T,R,A2,a8,_,an,aj,ay,ax,by omega,by go_num,rfl,b6,b0,b3,b4,b2,b7⟩
       case measure=>simp[intOf];omega
  ·obtain rfl:k=nd:=by omega
   have bc:Hid (BA (leftOf x) (BW x) x.decl b.T=BA (leftOf x) ak [] o.T):=Hd (by have h1:=HY.out;rw[List.drop_of_length_le (by have:=bk.out;omega)]at h1;exact h1)
   have bj:Hid ({b with T:=o.T}=o):=Hd (by obtain⟨h1,h2⟩:=b7.out;cases o;simp at h1 h2;rw[<-h1,<-h2]);rcases HO.out with⟨ho,av⟩|⟨ho,aw,av⟩
   ·subst av
    have HE:Hid (GQ b (BA (leftOf x) (BW x) x.decl b.T)=.ok o):=Hd (by rw[bc.out,ho];exact congrArg Except.ok bj.out);clear ho;go_wp2
    go_end0
    refine⟨_,_,_,_,_,HA.out,HC.out.1,?_⟩;rw[HE.out];exact⟨rfl,rfl⟩
   ·obtain⟨m,U,P⟩:∃m U,BW x=some (m,U):=by
     cases P:BW x with
     | none=>exact absurd (ho.trans P) aw
     | some al=>exact⟨al.1,al.2,rfl⟩
    have HU:=Hd (bl.out m U P wr HA.out.below HA.out.cells.1);have cj:(0:Int)<(n':Int):=by omega
    cases hs:Es (leftOf x) U with
    | error f=>
     rw[hs]at HU;have HE:Hid (GQ b (BA (leftOf x) (BW x) x.decl b.T)=.error f):=Hd (by rw[bc.out,ho,P,BA,hs];rfl);clear hs ho aw P;go_wp2_with (go_at_call 206;refine HU.out.mono ?_;intro e w2 i;obtain⟨C,i⟩:=i;have i:e=_:=i;subst i)
     refine⟨rfl,_,_,_,_,_,HA.out.Aw (.AH (X:=fun _=>False) C) (fun _ _=>id),HC.out.1.next (.AH C),?_⟩;rw[HE.out];exact BS.of rfl rfl
    | ok uu=>
     rw[hs]at HU;have HE:Hid (GQ b (BA (leftOf x) (BW x) x.decl b.T)=.ok o):=Hd (by rw[bc.out,ho,P,BA,hs];exact congrArg Except.ok bj.out);clear hs ho aw P;go_wp2_with (go_at_call 206;refine HU.out.mono ?_;intro e w2 i;obtain⟨C,rfl⟩:=i;have ao:=Hd C;clear C)
     go_end0
     have I:=HA.out.Aw (.AH (X:=fun _=>False) ao.out) (fun _ _=>id);refine⟨_,_,_,_,_,I,HC.out.1.next (.AH ao.out),?_⟩;rw[HE.out];exact⟨rfl,rfl⟩
end
section
open Go.RowKit Go.Maps
theorem Y0(w:World):(Instr.typeAssert .nilIface 20 134 true).run Tryz.prog w=.ok (.tuple #[.agg #[.int .i64 0,.int .i64 0],.bool false]) w:=by kernel_rfl
theorem QG(e p:Int)(w:World):(Instr.typeAssert (.iface 134 (.agg #[.int .i64 e,.int .i64 p])) 20 134 true).run Tryz.prog w=.ok (.tuple #[.agg #[.int .i64 e,.int .i64 p],.bool true]) w:=by kernel_rfl
theorem fZ(w:World):(binOp .neq 20 .nilIface .nilIface).run Tryz.prog w=.ok (.bool false) w:=by kernel_rfl
theorem PQ(w:World):(binOp .eql 20 .nilIface .nilIface).run Tryz.prog w=.ok (.bool true) w:=by kernel_rfl
theorem Y1(v:Value)(w:World):(binOp .neq 20 (.iface 134 v) .nilIface).run Tryz.prog w=.ok (.bool true) w:=by kernel_rfl
theorem RJ(v:Value)(w:World):(binOp .eql 20 (.iface 134 v) .nilIface).run Tryz.prog w=.ok (.bool false) w:=by kernel_rfl
theorem RZ{P:Program}{fn:Func}{i:Frame}{cs:List Frame}{R:Ending->FrameMode->World->Prop}{tmps:Array Value}{w:World}{u:FrameMode}(j:fn.results=#[])(l:i.mode=u)(h:R (.returned (.tuple #[])) u w):bodyPostS P fn i cs R .normal {tmps:=tmps,defers:=[]} (i::cs) w:=
 ⟨rfl,u,by cases i;simp_all,_,results_none j _ _ _,h⟩
theorem Zs{P:Program}{fn:Func}{i:Frame}{cs:List Frame}{R:Ending->FrameMode->World->Prop}{tmps:Array Value}{w:World}{u:FrameMode}{j:List PanicEntry}(l:i.mode=u)(h:R (.panicked j) u w):bodyPostS P fn i cs R (.panic j) {tmps:=tmps,defers:=[]} (i::cs) w:=
 ⟨rfl,u,by cases i;simp_all,h⟩
theorem NS{P:Program}{fn:Func}{j:Frame}{cs:List Frame}{R:Ending->FrameMode->World->Prop}{tmps:Array Value}{w:World}{u:FrameMode}{i:List PanicEntry}(h:R (.panicked i) u w):bodyPostS P fn j cs R (.panic i) {tmps:=tmps,defers:=[]} ({j with mode:=u}::cs) w:=
 ⟨rfl,u,rfl,h⟩
theorem aX{w:World}{o J n:Nat}(T:w.cell? ⟨o,0,none⟩=some (.pointer (some ⟨J,0,none⟩)))(hn:n<=100000)
  (C:∀w',Below w.heap.size w w'->Calls Tryz.prog 172 #[.pointer (some ⟨J,0,none⟩)] w' fun e a3=>e=.returned (.int .i64 n)/\a3=w') :
  CallsD Tryz.prog 171 #[.pointer (some ⟨o,0,none⟩)] .returning w fun e u' w'=>u'=.returning/\Below w.heap.size w w'/\e=if n<=8192 then .panicked [{v:=.iface 134 (.agg #[.int .i64 8,.int .i64 n]),recovered:=false}] else .returned (.tuple #[]):=by
 have a4:o<w.heap.size:=World.block_lt_of_cell? w _ T;have a0:=Y0;have a1:=fZ;have a2:=PQ;have t:=Hd (Ay w (.cells #[.int .i64 0,.int .i64 0] 134));have I:=Hd (C _ (Ay w (.cells #[.int .i64 0,.int .i64 0] 134)));clear C;by_cases j:n<=8192
 ·have U:(n:Int)<=8192:=by omega
  rw[if_pos j];clear j;refine callsD_of_wpS Tryz.func171 rfl fun R P i=>?_
  simp only[Tryz.ntmps171,List.size_toArray,List.length_cons,List.length_nil,Nat.reduceAdd,Nat.reduceSub,Array.replicate_succ,Array.replicate_zero,List.push_toArray,List.append_toArray,List.nil_append,List.cons_append];apply wpS_seq;apply wpS_region;simp[wpOpsS,go_sem,recoverD,i,Exit.thenS];refine wpS_of_wp ?_;have l:=Hd i;clear i;go_wp2_with (first
   | (go_at_call 172;refine I.out.mono ?_;rintro e w' ⟨rfl,rfl⟩)
   | (go_at_call 173;refine(Eg _ _ _).mono ?_;rintro e w' ⟨rfl,p⟩;subst p))
  exact Zs l.out ⟨rfl,t.out,rfl⟩
 ·have U:¬(n:Int)<=8192:=by omega
  rw[if_neg j];clear j;refine callsD_of_wpS Tryz.func171 rfl fun R P i=>?_
  simp only[Tryz.ntmps171,List.size_toArray,List.length_cons,List.length_nil,Nat.reduceAdd,Nat.reduceSub,Array.replicate_succ,Array.replicate_zero,List.push_toArray,List.append_toArray,List.nil_append,List.cons_append];apply wpS_seq;apply wpS_region;simp[wpOpsS,go_sem,recoverD,i,Exit.thenS];refine wpS_of_wp ?_;have l:=Hd i;clear i;go_wp2_with (first
   | (go_at_call 172;refine I.out.mono ?_;rintro e w' ⟨rfl,rfl⟩)
   | (go_at_call 173;refine(Eg _ _ _).mono ?_;rintro e w' ⟨rfl,p⟩;subst p))
  exact RZ rfl l.out ⟨rfl,t.out,rfl⟩
theorem Vq{w:World}{I R n p:Nat}{k:Int}{a3:List PanicEntry}(hc:w.cell? ⟨I,0,none⟩=some (.pointer (some ⟨R,0,none⟩)))(hn:n<=100000)
  (J:∀w',Below w.heap.size w w'->Calls Tryz.prog 172 #[.pointer (some ⟨R,0,none⟩)] w' fun e a4=>e=.returned (.int .i64 n)/\a4=w') :
  CallsD Tryz.prog 171 #[.pointer (some ⟨I,0,none⟩)] (.panicking ({v:=.iface 134 (.agg #[.int .i64 k,.int .i64 p]),recovered:=false}::a3)) w fun e u' w'=>u'=.panicking ({v:=.iface 134 (.agg #[.int .i64 k,.int .i64 p]),recovered:=true}::a3)/\Below w.heap.size w w' /\
   e=if n<=8192/\n<p then .panicked [{v:=.iface 134 (.agg #[.int .i64 8,.int .i64 n]),recovered:=false}] else .panicked [{v:=.iface 134 (.agg #[.int .i64 k,.int .i64 p]),recovered:=false}]:=by
 have a5:I<w.heap.size:=World.block_lt_of_cell? w _ hc;have a0:=QG;have a1:=Y1;have a2:=RJ;have a6:∀(x:Bool) (w:World),(Op.unary .not (.bool x)).run Tryz.prog w=.ok (.bool (!x)) w:=fun _ _=>rfl
 have t:=Hd (Ay w (.cells #[.int .i64 k,.int .i64 p] 134));have C:=Hd (J _ (Ay w (.cells #[.int .i64 k,.int .i64 p] 134)));clear J;by_cases j:n<=8192
 ·have q1:(n:Int)<=8192:=by omega
  by_cases o:n<p
  ·have q2:(n:Int)<(p:Int):=by omega
   rw[if_pos ⟨j,o⟩];clear j o;refine callsD_of_wpS Tryz.func171 rfl fun U T i=>?_
   simp only[Tryz.ntmps171,List.size_toArray,List.length_cons,List.length_nil,Nat.reduceAdd,Nat.reduceSub,Array.replicate_succ,Array.replicate_zero,List.push_toArray,List.append_toArray,List.nil_append,List.cons_append];apply wpS_seq;apply wpS_region;simp[wpOpsS,go_sem,recoverD,i,Exit.thenS];refine wpS_of_wp ?_;have P:=Hd i;clear i;go_wp2_with (first
    | (go_at_call 172;refine C.out.mono ?_;rintro e w' ⟨rfl,rfl⟩)
    | (go_at_call 173;refine(Eg _ _ _).mono ?_;rintro e w' ⟨rfl,l⟩;subst l))
   exact NS ⟨rfl,t.out,rfl⟩
  ·have q2:¬(n:Int)<(p:Int):=by omega
   rw[if_neg (fun h=>o h.2)];clear j o;refine callsD_of_wpS Tryz.func171 rfl fun U T i=>?_
   simp only[Tryz.ntmps171,List.size_toArray,List.length_cons,List.length_nil,Nat.reduceAdd,Nat.reduceSub,Array.replicate_succ,Array.replicate_zero,List.push_toArray,List.append_toArray,List.nil_append,List.cons_append];apply wpS_seq;apply wpS_region;simp[wpOpsS,go_sem,recoverD,i,Exit.thenS];refine wpS_of_wp ?_;have P:=Hd i;clear i;go_wp2_with (first
    | (go_at_call 172;refine C.out.mono ?_;rintro e w' ⟨rfl,rfl⟩)
    | (go_at_call 173;refine(Eg _ _ _).mono ?_;rintro e w' ⟨rfl,l⟩;subst l))
   exact NS ⟨rfl,t.out,rfl⟩
 ·have q1:¬(n:Int)<=8192:=by omega
  rw[if_neg (fun h=>j h.1)];clear j;refine callsD_of_wpS Tryz.func171 rfl fun U T i=>?_
  simp only[Tryz.ntmps171,List.size_toArray,List.length_cons,List.length_nil,Nat.reduceAdd,Nat.reduceSub,Array.replicate_succ,Array.replicate_zero,List.push_toArray,List.append_toArray,List.nil_append,List.cons_append];apply wpS_seq;apply wpS_region;simp[wpOpsS,go_sem,recoverD,i,Exit.thenS];refine wpS_of_wp ?_;have P:=Hd i;clear i;go_wp2_with (first
   | (go_at_call 172;refine C.out.mono ?_;rintro e w' ⟨rfl,rfl⟩)
   | (go_at_call 173;refine(Eg _ _ _).mono ?_;rintro e w' ⟨rfl,l⟩;subst l))
  exact NS ⟨rfl,t.out,rfl⟩
def SN(f:Bi)(e:Ending):Prop:=∃i:List PanicEntry,(i.all fun p=>!p.goexit)=true/\e=.panicked ({v:=.iface 134 (.agg #[.int .i64 f.1,.int .i64 f.2]),recovered:=false}::i)
def X9(i w:World)(j o l rb:Nat)(tv nv I:Value)(C:List BC)(r:Except Bi Bd)(e:Ending)(w':World):Prop:=
 Below i.heap.size i w'/\match r with
 | .ok b=>e=.returned (.tuple #[])/\∃P J t p,BO i w' j o l rb P J I b C t p/\Aj (DE j o l tv nv) w w'
 | .error f=>SN f e
theorem YX{w0 w:World}{i U T rb:Nat}{tv nv gv:Value}{b:Bd}{gs:List BC}{DT DN:DataW Unit}(h:BO w0 w i U T rb tv nv gv b gs DT DN){B mb:Nat}{tb:Option Nat}{l:List Tk}{x:Bh}{dv kv sv rv:Value}{rs:List Bm}{D:DataW Unit}(hr:DL w0 B rb mb tb l x dv kv sv rv rs D)(a4:rs.map Bm.r=x.rules)
  (a5:x.marks.length=x.starts.length) (a6:∀t∈x.decl,t.s.length<=8192) (a8:∀t∈x.starts,t.s.length<=8192) (hT:b.T=[]) (a7:DM x.marks<=100000) :
  Calls Tryz.prog 122 #[.pointer (some ⟨i,0,none⟩)] w (X9 w0 w i U T rb tv nv gv gs (GQ b (Gr x))):=by
 have a2:=Hd (h.alloc (.cells #[.pointer (some ⟨i,0,none⟩)] 141));have a0:=Hd (Ah.new w 141 #[.pointer (some ⟨i,0,none⟩)]);have R:=Hd (Yb a2.out hr a4 a5 a6 a8);have ae:=Hd ((Aj.refl (DE i U T tv nv) w).alloc (.cells #[.pointer (some ⟨i,0,none⟩)] 141));have HR:=Hd hr;have a3:=Hd a7;rw[hT]at R;have ai:∀(fn:Fn) (first cap:Array Value) (w:World),(Instr.makeFunc fn first cap).run Tryz.prog w=.ok (.func fn first cap) w:=fun _ _ _ _=>rfl
 have aj:w.heap.size<(w.alloc (.cells #[.pointer (some ⟨i,0,none⟩)] 141)).heap.size:=by simp
 have p0:=a0.out.cell 0;simp at p0;have HS:Hid (∀p b' aa a9 DT DN,BO w0 p i U T rb aa a9 gv b' gs DT DN->Aj (DE i U T tv nv) (w.alloc (.cells #[.pointer (some ⟨i,0,none⟩)] 141)) p->p.cell? ⟨w.heap.size,0,none⟩=some (.pointer (some ⟨i,0,none⟩))/\∀w',Below p.heap.size p w'->Calls Tryz.prog 172 #[.pointer (some ⟨i,0,none⟩)] w' fun e a1=>e=.returned (.int .i64 (DM x.marks))/\a1=w'):=Hd (fun p b' aa a9 DT DN ha hc=>by refine⟨(hc.An a0.out (J3 a2.out a0.out (by decide) (by decide))).cell 0,fun w' I=>?_⟩;have h2:=ha.Aw (.AH (X:=fun _=>False) I) (fun _ _=>id);exact aE (HR.out.later h2.below) h2.cells.1)
 clear h hr a5 a6 a8 hT a7 a4;cases P:BA (leftOf x) (BW x) x.decl [] with
 | error f=>
  rw[P]at R;have j:Hid (GQ b (Gr x)=.error (if DM x.marks<=8192/\DM x.marks<f.2 then(8,DM x.marks) else f)):=Hd (by unfold Gr;rw[P];simp only;split<;>rfl);clear P
  go_enter_defers Tryz.func122,Tryz.ntmps122
  go_wp2_with (go_at_call 174;refine R.out.mono ?_;intro e p C;obtain⟨b2,ah,ag,ad,ab,z1,z2,C⟩:=C;have C:e=_:=C;subst C)
  obtain⟨y1,y2⟩:=HS.out _ _ _ _ _ _ z1 z2;refine leaves_cons (f:=171) (args:=#[.pointer (some ⟨w.heap.size,0,none⟩)]) (by simp) (by simp[go_sem]) ?_;refine(Vq y1 a3.out y2).mono ?_;rintro e u' a1 ⟨rfl,I,he⟩;subst he;have J:=(z1.Aw (.AH (X:=fun _=>False) I) (fun _ _=>id)).below;by_cases o:DM x.marks<=8192/\DM x.marks<f.2
  ·rw[if_pos o]
   rw[if_pos o]at j;simp only[raised,Leaves];refine⟨J,?_⟩;rw[j.out];exact⟨_,rfl,rfl⟩
  ·rw[if_neg o]
   rw[if_neg o]at j;simp only[raised,Leaves];refine⟨J,?_⟩;rw[j.out];exact⟨_,rfl,rfl⟩
 | ok af=>
  rw[P]at R;have j:Hid (GQ b (Gr x)=if DM x.marks<=8192 then .error (8,DM x.marks) else .ok {b with T:=af}):=Hd (by unfold Gr;rw[P];simp only;split<;>rfl);clear P
  go_enter_defers Tryz.func122,Tryz.ntmps122
  go_wp2_with (go_at_call 174;refine R.out.mono ?_;intro e p C;obtain⟨b2,ah,ag,ad,ab,z1,z2,rfl,rfl⟩:=C)
  obtain⟨y1,y2⟩:=HS.out _ _ _ _ _ _ z1 z2;refine leaves_cons (f:=171) (args:=#[.pointer (some ⟨w.heap.size,0,none⟩)]) (by simp) (by simp[go_sem]) ?_;refine(aX y1 a3.out y2).mono ?_;rintro e u' a1 ⟨rfl,I,he⟩;subst he;have J:=(z1.Aw (.AH (X:=fun _=>False) I) (fun _ _=>id))
  by_cases o:DM x.marks<=8192
  ·rw[if_pos o]
   rw[if_pos o]at j;simp only[raised,Leaves];refine⟨J.below,?_⟩;rw[j.out];exact⟨_,rfl,rfl⟩
  ·rw[if_neg o]
   rw[if_neg o]at j;simp only[settle,Leaves];refine⟨_,results_none rfl _ _ _,J.below,?_⟩;rw[j.out];exact⟨rfl,_,_,_,_,J,(ae.out.next z2).next (.AH I)⟩
end
section
open Go.RowKit Go.Maps
structure Bt where
 left:Nat
 v:Value
 r:List Nat
def Bt.cells(q:Bt):List Value:=[.int .i64 q.left,q.v]
def Bt.g(q:Bt):Nat×List Nat:=(q.left,q.r)
theorem Bt.MI(q:Bt):q.cells.length=2:=rfl
theorem Ww:El Tryz.prog 22 65 2 32:=El.of (z:=.agg #[.int .i64 0,.slice none 0 0]) Tryz.underlying22 (by kernel_rfl) rfl (by decide)
structure DU(w0 w:World)(bb:Nat)(p1 p2 p3 tv nv gv Rv:Value)(b:Bd)(gs:List BC)(R:List Bt)(st:Int):Prop where
 below:Below w0.heap.size w0 w
 An:Ah w bb 144 #[p1,p2,p3,tv,nv,Rv,.int .i64 st,gv]
 ft:w.ownsRow w0.heap.size 9 1 tv b.T.length (b.T.map Nv)
 fn:w.ownsRow w0.heap.size 9 1 nv b.N.length (b.N.map Nv)
 fg:w.ownsRow w0.heap.size 30 1 gv gs.length (gs.map BC.v)
 rows:∀q∈gs,w.ownsRow w0.heap.size 9 1 q.v q.l.length (q.l.map Nv)
 fR:w.ownsRow w0.heap.size 65 2 Rv R.length (R.flatMap Bt.cells)
 Iu:∀q∈R,w.ownsRow w0.heap.size 3 1 q.v q.r.length (q.r.map Mark)
 names:gs.map BC.l=b.R
 b0:w0.heap.size<=bb
 lt:b.T.length<=120
 ln:b.N.length<=120
 lr:b.R.length<=300
theorem DU.of{w0 w:World}{bb j i rb:Nat}{tv nv gv:Value}{b:Bd}{gs:List BC}{o l:DataW Unit}(h:BO w0 w bb j i rb tv nv gv b gs o l):DU w0 w bb (.pointer (some ⟨rb,0,none⟩)) (.map (some j)) (.map (some i)) tv nv gv (.slice none 0 0) b gs [] 0:=
 ⟨h.below,h.An,h.ft,h.fn,h.fg,h.rows,World.ownsRow_nil _ _ _ _,(by simp),h.names,h.b0.1,h.lt,h.ln,h.lr⟩
namespace DU
variable {w0 w:World} {bb:Nat} {p1 p2 p3 tv nv gv Rv:Value} {b:Bd} {gs:List BC} {R:List Bt} {st:Int}
theorem later(h:DU w0 w bb p1 p2 p3 tv nv gv Rv b gs R st){w':World}(l:Below w.heap.size w w'):DU w0 w' bb p1 p2 p3 tv nv gv Rv b gs R st:=by have i:Aj (fun _=>False) w w':=.AH l;exact⟨h.below.trans (l.mono h.below.size),i.An h.An id,i.own h.ft (fun _ _=>id),i.own h.fn (fun _ _=>id),i.own h.fg (fun _ _=>id),fun q j=>i.own (h.rows q j) (fun _ _=>id),i.own h.fR (fun _ _=>id),fun q j=>i.own (h.Iu q j) (fun _ _=>id),h.names,h.b0,h.lt,h.ln,h.lr⟩
theorem drew(h:DU w0 w bb p1 p2 p3 tv nv gv Rv b gs R st):DU w0 w.drew bb p1 p2 p3 tv nv gv Rv b gs R st:=h.later (Iv w)
theorem cells(h:DU w0 w bb p1 p2 p3 tv nv gv Rv b gs R st):w.cell? ⟨bb,0,none⟩=some p1/\w.cell? ⟨bb,3,none⟩=some tv/\w.cell? ⟨bb,4,none⟩=some nv/\w.cell? ⟨bb,5,none⟩=some Rv/\w.cell? ⟨bb,6,none⟩=some (.int .i64 st)/\w.cell? ⟨bb,7,none⟩=some gv/\bb<w.heap.size:=
 ⟨h.An.cell 0,h.An.cell 3,h.An.cell 4,h.An.cell 5,h.An.cell 6,h.An.cell 7,h.An.lt⟩
theorem find(h:DU w0 w bb p1 p2 p3 tv nv gv Rv b gs R st)(s:AO):Calls Tryz.prog 125 #[.agg #[tv,nv,Rv,.int .i64 st],.string (str s)] w fun e w'=>e=.returned (.int .i64 (BY b.T b.N s))/\Below w.heap.size w w':=
 V3 h.ft h.fn h.lt h.ln s
theorem app(h:DU w0 w bb p1 p2 p3 tv nv gv Rv b gs R st){w2:World}{o:Obj}{i:Option Addr}{c2:Nat}{q:Bt}(J:w.ownsRow w0.heap.size 3 1 q.v q.r.length (q.r.map Mark))
  (ho:w2.ownsRow w0.heap.size 65 2 (.slice i (R.length+1) c2) (R.length+1) (R.flatMap Bt.cells++q.cells))
  (hg:(w.alloc o).grownBy w2 Rv.ownBlock/\((Value.slice i (R.length+1) c2).ownBlock=Rv.ownBlock\/(Value.slice i (R.length+1) c2).ownBlock=some (w.alloc o).heap.size)) :
  DU w0 (w2.setCell ⟨bb,5,none⟩ (.slice i (R.length+1) c2)) bb p1 p2 p3 tv nv gv (.slice i (R.length+1) c2) b gs (R++[q]) st/\Aj (fun k=>Rv.ownBlock=some k\/k=bb) w (w2.setCell ⟨bb,5,none⟩ (.slice i (R.length+1) c2)):=by
 have hX:Aj (fun k=>Rv.ownBlock=some k) w w2:=((Aj.refl _ w).alloc o).next (.Cw hg.1);have C:Aj (fun k=>Rv.ownBlock=some k\/k=bb) w (w2.setCell ⟨bb,5,none⟩ (.slice i (R.length+1) c2)):=(hX.mono (fun a1 hi=>.inl hi)).set (p:=⟨bb,5,none⟩) (.inr (.inr rfl)) _;have U:¬Rv.ownBlock=some bb:=CD h.fR h.An (by decide);have a0:=h.An.lt;have j:∀{e:TypeId} {n:Nat} {v:Value} {T:List Value},w.ownsRow w0.heap.size e 1 v n T->e≠65->e≠144->(w2.setCell ⟨bb,5,none⟩ (.slice i (R.length+1) c2)).ownsRow w0.heap.size e 1 v n T:=by
  intro e n v T P h1 h2;refine C.own P ?_;rintro k I (p|rfl)
  ·exact Gd P h.fR h1 k I p
  ·exact CD P h.An h2 I
 refine⟨⟨?_,by simpa using(hX.An h.An U).Bn 5 (.slice i (R.length+1) c2),j h.ft (by decide) (by decide),j h.fn (by decide) (by decide),j h.fg (by decide) (by decide),fun q J=>j (h.rows q J) (by decide) (by decide),?_,?_,h.names,h.b0,h.lt,h.ln,h.lr⟩,C⟩
 ·refine h.below.trans (C.below h.below.size ?_)
  rintro k I (p|p)
  ·have:=(BU h.fR k p).1;omega
  ·have:=h.b0;omega
 ·rw[show (R++[q]).length=R.length+1 by simp,List.flatMap_append]
  refine EB (by simpa using ho) ?_ _;intro e;rcases hg.2 with t|t
  ·exact U (t▸e)
  ·rw[t]at e;injection e with e;simp at e;omega
 ·intro u l
  rcases mA.1 l with l|l
  ·exact j (h.Iu u l) (by decide) (by decide)
  ·rw[mS.1 l];exact j J (by decide) (by decide)
theorem start(h:DU w0 w bb p1 p2 p3 tv nv gv Rv b gs R st)(s:Int):DU w0 (w.setCell ⟨bb,6,none⟩ (.int .i64 s)) bb p1 p2 p3 tv nv gv Rv b gs R s/\Aj (fun k=>k=bb) w (w.setCell ⟨bb,6,none⟩ (.int .i64 s)):=by
 have j:Aj (fun k=>k=bb) w (w.setCell ⟨bb,6,none⟩ (.int .i64 s)):=(Aj.refl (fun k=>k=bb) w).set (p:=⟨bb,6,none⟩) (.inr rfl) _;have i:∀{e:TypeId} {o n:Nat} {v:Value} {p:List Value},w.ownsRow w0.heap.size e o v n p->e≠144->(w.setCell ⟨bb,6,none⟩ (.int .i64 s)).ownsRow w0.heap.size e o v n p:=by intro e o n v p C I;refine j.own C ?_;rintro k t rfl;exact CD C h.An I t
 refine⟨⟨?_,by simpa using h.An.Bn 6 (.int .i64 s),i h.ft (by decide),i h.fn (by decide),i h.fg (by decide),fun q l=>i (h.rows q l) (by decide),i h.fR (by decide),fun q l=>i (h.Iu q l) (by decide),h.names,h.b0,h.lt,h.ln,h.lr⟩,j⟩;refine h.below.trans (j.below h.below.size ?_);rintro k t J;have:=h.b0;omega
end DU
structure I4(wi:World)(xb left:Nat)(xv:Value)(done:List Nat)(wr:World):Prop where
 below:Below wi.heap.size wi wr
 box:Ah wr xb 65 #[.int .i64 left,xv]
 own:wr.ownsRow wi.heap.size 3 1 xv done.length (done.map Mark)
 hx:wi.heap.size<=xb
namespace I4
variable {wi wr:World} {xb left:Nat} {xv:Value} {done:List Nat}
theorem later(h:I4 wi xb left xv done wr){w':World}(i:Below wr.heap.size wr w'):I4 wi xb left xv done w':=by have j:Aj (fun _=>False) wr w':=.AH i;exact⟨h.below.trans (i.mono h.below.size),j.An h.box id,j.own h.own (fun _ _=>id),h.hx⟩
theorem app(h:I4 wi xb left xv done wr){w2:World}{o:Obj}{i:Option Addr}{c2 s:Nat}
  (P:w2.ownsRow wi.heap.size 3 1 (.slice i (done.length+1) c2) (done.length+1) (done.map Mark++[Mark s]))
  (t:(wr.alloc o).grownBy w2 xv.ownBlock/\((Value.slice i (done.length+1) c2).ownBlock=xv.ownBlock\/(Value.slice i (done.length+1) c2).ownBlock=some (wr.alloc o).heap.size)) :
  I4 wi xb left (.slice i (done.length+1) c2) (done++[s]) (w2.setCell ⟨xb,1,none⟩ (.slice i (done.length+1) c2)):=by
 have p:Aj (fun k=>xv.ownBlock=some k) wr w2:=((Aj.refl _ wr).alloc o).next (.Cw t.1);have I:Aj (fun k=>xv.ownBlock=some k\/k=xb) wr (w2.setCell ⟨xb,1,none⟩ (.slice i (done.length+1) c2)):=(p.mono (fun a0 J=>.inl J)).set (p:=⟨xb,1,none⟩) (.inr (.inr rfl)) _;have l:¬xv.ownBlock=some xb:=CD h.own h.box (by decide);have U:=h.box.lt;refine⟨?_,by simpa using(p.An h.box l).Bn 1 (.slice i (done.length+1) c2),?_,h.hx⟩
 ·refine h.below.trans (I.below h.below.size ?_)
  rintro k T (C|C)
  ·have:=(BU h.own k C).1;omega
  ·have:=h.hx;omega
 ·rw[show (done++[s]).length=done.length+1 by simp,By]
  refine EB P ?_ _;intro e;rcases t.2 with j|j
  ·exact l (j▸e)
  ·rw[j]at e;injection e with e;simp at e;omega
end I4
def Lj(R:List (List AO)):Prop:=∀r∈R,r≠[]/\r.length<=100001
theorem Ro{o:AO->Bool}:∀(l:List Tk) (k:Nat) {b j:Bd},DY o b k l=.ok j->j.R=b.R
 | [],k,b,j,h=>by injection h with h;rw[h]
 | t::l,k,b,j,h=>by
  unfold DY at h;cases i:D0 o b t k with
  | error f=>rw[i]at h;cases h
  | ok p=>
   rw[i]at h;rw[Ro l (k+1) h];unfold D0 at i;split at i
   ·cases i
   split at i
   ·injection i with i;rw[<-i]
   split at i
   ·split at i
    ·cases i
    ·injection i with i;rw[<-i]
   split at i
   ·injection i with i;rw[<-i]
   ·cases i
theorem bA{o:AO->Bool}{b l:Bd}{left:AO}{s:PS}(t:s.l.length<=100000)(h0:Lj b.R)(h:D3 o b left s=.ok l):Lj l.R:=by
 unfold D3 at h;split at h
 ·cases h
 cases j:DY o b 0 s.l with
 | error f=>rw[j]at h;cases h
 | ok p=>
  rw[j]at h;simp only at h;split at h
  ·cases h
  ·injection h with h
   rw[<-h];intro r i;rcases mA.1 i with i|i
   ·rw[Ro _ _ j]at i;exact h0 r i
   ·rw[mS.1 i];simp;omega
theorem aI{D:Nat}{b i:Bd}{t:Tk}(h:EO D b t=.ok i):i.R=b.R:=by
 unfold EO at h;split at h
 ·cases h
 split at h
 ·injection h with h;rw[<-h]
 split at h
 ·cases h
 ·injection h with h;rw[<-h]
end
section
open Go.RowKit Go.Maps
structure Has(w0 w:World)(tv nv Rv:Value)(g:PG)(R:List Bt):Prop where
 ft:w.ownsRow w0.heap.size 9 1 tv g.T.length (g.T.map Nv)
 fn:w.ownsRow w0.heap.size 9 1 nv g.N.length (g.N.map Nv)
 fR:w.ownsRow w0.heap.size 65 2 Rv R.length (R.flatMap Bt.cells)
 Iu:∀q∈R,w.ownsRow w0.heap.size 3 1 q.v q.r.length (q.r.map Mark)
 r:R.map Bt.g=g.R
def Tn(i:World)(r:Except Bi PG)(e:Ending)(w':World):Prop:=
 Below i.heap.size i w'/\match r with
 | .ok g=>∃o l j R,e=.returned (.agg #[o,l,j,.int .i64 g.s])/\Has i w' o l j g R
 | .error f=>SN f e
theorem aC{w:World}{B:Nat}{g:Nat}{c:Nat}{l:List Bm}{k:Nat}{q:Bm}(h:w.ownsRow B 208 4 (.slice (some ⟨g,0,none⟩) l.length c) l.length (l.flatMap Bm.cells))(P:l[k]?=some q) :
  w.cell? ⟨g,k*4,none⟩=some (.int .i64 q.left.k)/\w.cell? ⟨g,k*4+1,none⟩=some (.string (str q.left.s))/\w.cell? ⟨g,k*4+2,none⟩=some (.int .i64 q.left.p)/\w.cell? ⟨g,k*4+3,none⟩=some q.v:=by
 obtain⟨J,R⟩:=sG.1 P;have i:∀j,j<4->(l.flatMap Bm.cells)[k*4+j]?=(Bm.cells q)[j]?:=fun j I=>by rw[CZ Bm.cells 4 (fun _=>rfl) l k j J I,R]
 have o:=Bf h (k*4) (by omega);have p:=Bf h (k*4+1) (by omega);have t:=Bf h (k*4+2) (by omega);have C:=Bf h (k*4+3) (by omega);rw[o,p,t,C,i 1 (by omega),i 2 (by omega),i 3 (by omega)];have:=i 0 (by omega);rw[Nat.add_zero]at this;rw[this];exact⟨rfl,rfl,rfl,rfl⟩
theorem fB{w:World}{B:Nat}{g:Nat}{c:Nat}{l:List GS}{k:Nat}{q:GS}(h:w.ownsRow B 211 2 (.slice (some ⟨g,0,none⟩) l.length c) l.length (l.flatMap GS.cells))(I:l[k]?=some q) :
  w.cell? ⟨g,k*2,none⟩=some q.v/\w.cell? ⟨g,k*2+1,none⟩=some (.int .i64 q.s.p):=by
 obtain⟨C,J⟩:=sG.1 I;have i:∀j,j<2->(l.flatMap GS.cells)[k*2+j]?=(GS.cells q)[j]?:=fun j t=>by rw[CZ GS.cells 2 (fun _=>rfl) l k j C t,J]
 have o:=Bf h (k*2) (by omega);have p:=Bf h (k*2+1) (by omega);rw[o,p,i 1 (by omega)];have:=i 0 (by omega);rw[Nat.add_zero]at this;rw[this];exact⟨rfl,rfl⟩
theorem Tc{i:Type}{l:List i}{k:Nat}{a:i}(h:l[k]?=some a):l.drop k=a::l.drop (k+1):=by obtain⟨j,e⟩:=sG.1 h;rw[List.drop_eq_getElem_cons j,e]
theorem cO{w:World}{B n g c:Nat}{e:TypeId}{s:Nat}{xs:List Value}(h:w.ownsRow B e s (.slice (some ⟨g,0,none⟩) n c) n xs):n<=c/\c<=9223372036854775807:=by
 rcases Bv h with⟨i,_⟩|⟨b,c2,i,_,_,j,l,_⟩
 ·cases i
 ·cases i
  unfold maxLen at l;exact⟨j,by omega⟩
def ZG:Array Value:=#[.slice none 0 0,.slice none 0 0,.slice none 0 0,.int .i64 0]
theorem Ni{U w w':World}{i o l rb g:Nat}{tv nv J:Value}{b:Bd}{I:List BC}{C p:DataW Unit}{t:TypeId}{cs:Array Value}(h:BO U w i o l rb tv nv J b I C p)(T:Aj (DE i o l tv nv) w w')(j:Ah w g t cs)(P:t≠144)(R:t≠9):Ah w' g t cs:=T.An j (J3 h j P R)
theorem RF{w0 w w':World}{i p o rb g:Nat}{tv nv j:Value}{b:Bd}{J:List BC}{I C:DataW Unit}{t:TypeId}{cs:Array Value}(h:BO w0 w i p o rb tv nv j b J I C)(U:Aj (MW i p o tv nv j) w w')(l:Ah w g t cs)(P:t≠144)(R:t≠9)(T:t≠30):Ah w' g t cs:=U.An l (Z3 h l P R T)
theorem DU.last{j w:World}{P i:Nat}{p1 p2 p3 tv nv U o:Value}{b:Bd}{T:List BC}{R:List Bt}{st:Int}{g:PG}(h:DU j w P p1 p2 p3 tv nv U o b T R st)(hg:Ah w i 32 ZG)(a0:j.heap.size<=i)(hT:g.T=b.T)(hN:g.N=b.N)(hR:R.map Bt.g=g.R)(hs:(g.s:Int)=st)(u0 u1 u2 u3:Value) :
  Tn j (.ok g) (.returned (.agg #[tv,nv,o,.int .i64 st])) ((((w.setCell ⟨i,0,none⟩ u0).setCell ⟨i,1,none⟩ u1).setCell ⟨i,2,none⟩ u2).setCell ⟨i,3,none⟩ u3):=by
 have C:Aj (·=i) w ((((w.setCell ⟨i,0,none⟩ u0).setCell ⟨i,1,none⟩ u1).setCell ⟨i,2,none⟩ u2).setCell ⟨i,3,none⟩ u3):=((((Aj.refl (·=i) w).set (p:=⟨i,0,none⟩) (.inr rfl) _).set (p:=⟨i,1,none⟩) (.inr rfl) _).set (p:=⟨i,2,none⟩) (.inr rfl) _).set (p:=⟨i,3,none⟩) (.inr rfl) _;have l:∀{e:TypeId} {p n:Nat} {v:Value} {t:List Value},w.ownsRow j.heap.size e p v n t->e≠32->World.ownsRow ((((w.setCell ⟨i,0,none⟩ u0).setCell ⟨i,1,none⟩ u1).setCell ⟨i,2,none⟩ u2).setCell ⟨i,3,none⟩ u3) j.heap.size e p v n t:=by intro e p n v t J he;refine C.own J ?_;rintro k I rfl;exact CD J hg he I
 refine⟨h.below.trans (C.below h.below.size (fun k I e=>by omega)),tv,nv,o,R,by rw[hs],⟨?_,?_,l h.fR (by decide),fun q hq=>l (h.Iu q hq) (by decide),hR⟩⟩
 ·rw[hT];exact l h.ft (by decide)
 ·rw[hN];exact l h.fn (by decide)
theorem Xp{I w:World}{bb tm nm rb:Nat}{tv nv gv:Value}{DT DN:DataW Unit}(h:BO I w bb tm nm rb tv nv gv ⟨[],[],[]⟩ [] DT DN){B mb:Nat}{tb:Option Nat}{l:List Tk}{x:Bh}{dv kv sv rv:Value}{rs:List Bm}{D:DataW Unit}(P:DL I B rb mb tb l x dv kv sv rv rs D)(ck:rs.map Bm.r=x.rules)
  (ea:x.marks.length=x.starts.length) (ec:∀t∈x.decl,t.s.length<=8192) (ef:∀t∈x.starts,t.s.length<=8192) (ed:DM x.marks<=100000)
  (ee:∀r∈rs,r.left.s.length<=8192/\∀q∈r.ss,(∀t∈q.s.l,t.s.length<=8192)/\q.s.l.length<=100000) :
  Calls Tryz.prog 69 #[.pointer (some ⟨bb,0,none⟩)] w (Tn I (Gh x)):=by
 have bj:=Hd (h.alloc (.cells ZG 32));have db:=Hd (Ah.new w 32 ZG);have an:=Hd (YX bj.out P ck ea ec ef rfl ed);have eh:=h.below.size;have gl:w.heap.size<(w.alloc (.cells ZG 32)).heap.size:=by simp
 unfold ZG at an;have d5:Hid (∀o,Below I.heap.size I o->o.cell? ⟨rb,3,none⟩=some sv/\o.cell? ⟨rb,4,none⟩=some rv):=Hd (fun o hb=>by obtain⟨_,_,a3,a4,_,_⟩:=(P.later hb).Bp.AW.cells;exact⟨a3,a4⟩)
 obtain⟨As,cs,ah⟩:=Bw P.Bp.starts;obtain⟨Ar,cr,g1⟩:=Bw P.rules;have f7:Hid (∀k q,rs[k]?=some q->∃g c,rv=.slice (some ⟨g,0,none⟩) rs.length c/\∀o,Below I.heap.size I o->o.cell? ⟨g,k*4,none⟩=some (.int .i64 q.left.k)/\o.cell? ⟨g,k*4+1,none⟩=some (.string (str q.left.s))/\o.cell? ⟨g,k*4+2,none⟩=some (.int .i64 q.left.p)/\o.cell? ⟨g,k*4+3,none⟩=some q.v):=Hd (fun k t ht=>by obtain⟨hk,_⟩:=sG.1 ht;obtain⟨g,c,hv⟩:=IW P.rules (by omega);refine⟨g,c,hv,fun o b1=>?_⟩;have p:=(Aj.AH (X:=fun _=>False) b1).own P.rules (fun _ _=>id);rw[hv]at p;exact aC p ht)
 have fb:Hid (∀q∈rs,(∃A c,q.v=.slice A q.ss.length c)/\q.ss.length<=9223372036854775807/\∀j s,q.ss[j]?=some s->∃g c,q.v=.slice (some ⟨g,0,none⟩) q.ss.length c/\∀o,Below I.heap.size I o->o.cell? ⟨g,j*2,none⟩=some s.v/\o.cell? ⟨g,j*2+1,none⟩=some (.int .i64 s.s.p)):=Hd (fun q hq=>by have bc:=(P.Hg q hq).1;refine⟨Bw bc,(by have:=TE bc;unfold maxLen at this;omega),fun j s R=>?_⟩;obtain⟨hk,_⟩:=sG.1 R;obtain⟨g,c,hv⟩:=IW bc (by omega);refine⟨g,c,hv,fun o b1=>?_⟩;have p:=(Aj.AH (X:=fun _=>False) b1).own bc (fun _ _=>id);rw[hv]at p;exact fB p R)
 have fd:Hid ((x.starts=[]/\x.starts.length=0)\/∃st r,x.starts=st::r/\(0:Int)<(x.starts.length:Int)/\∃g c,sv=.slice (some ⟨g,0,none⟩) x.starts.length c/\∀o,Below I.heap.size I o->o.cell? ⟨g,1,none⟩=some (.string (str st.s))):=Hd (by
  cases R:x.starts with
  | nil=>exact .inl ⟨rfl,rfl⟩
  | cons st r=>
   have fz:0<x.starts.length:=by rw[R];simp
   obtain⟨g,c,hv⟩:=IW P.Bp.starts fz;refine .inr ⟨st,r,rfl,by rw[<-R];omega,g,c,by rw[<-R];exact hv,fun o b1=>?_⟩;have p:=(Aj.AH (X:=fun _=>False) b1).own P.Bp.starts (fun _ _=>id);rw[hv]at p;exact(M3 (k:=0) p (by rw[R];rfl)).2.1)
 have gr:rs.length<=100000:=by have:=P.lr;omega
 have gs:x.starts.length<=100000:=by have:=P.Bp.ls;omega
 have HR:=Hd P;have HX:=Hd ck;have fc:=Hd ee;clear h P ck ea ec ef ed ee;subst ah;subst g1;generalize e4:rs.length=nr at *;generalize e6:x.starts.length=ns at *;have di:=Hd e4;clear e4 e6;cases hh:Gr x with
 | error f=>
  have HE:Hid (Gh x=.error f):=Hd (by unfold Gh;rw[hh]);rw[hh]at an;clear hh;go_enter Tryz.func69,Tryz.ntmps69
  go_wp2_with (go_at_call 122;refine an.out.mono ?_;rintro e w1 ⟨dr,h5,fy,rfl⟩)
  refine⟨rfl,dr,?_⟩;rw[HE.out];exact⟨_,fy,rfl⟩
 | ok T=>
  rw[hh]at an;have b5:Hid (∀r,Di (leftOf x) T.length ⟨T,[],[]⟩ x.rules=r->Gh x=match r with | .error f=>.error f | .ok b=>.ok (Ha x b)):=Hd (fun r P=>by unfold Gh;rw[hh];simp only;rw[P];cases r<;>rfl);clear hh;go_enter Tryz.func69,Tryz.ntmps69
  go_wp2_with (
         go_at_call 122;refine an.out.mono ?_;rintro e w1 ⟨dr,rfl,g9,ei,d3,d1,U,z2⟩
         have au:Hid (BO I w1 bb tm nm rb g9 ei gv ⟨T,[],[]⟩ [] d3 d1):=Hd U;have dc:Hid (Ah w1 w.heap.size 32 ZG):=Hd (Ni bj.out z2 db.out (by decide) (by decide));have gm:=dc.out.lt;obtain⟨c0,c1,c2,c3,c4,c7,aa⟩:=au.out.cells;obtain⟨k3,k4⟩:=d5.out w1 au.out.below;obtain⟨At,ct,g4⟩:=Bw au.out.ft;subst g4;clear U z2)
  generalize w.heap.size=g0 at *;clear c1 c2 c3 c4 c7 an db bj;have gi:T.length<=120:=au.out.lt;go_loopw [29] (fun aj wr=>∃(k:Nat) (i:Bd) (cv cn c8:Value) (a7:List BC) (d2 cz:DataW Unit),k<=nr/\aj=.int .i64 k/\Hid (BO I wr bb tm nm rb cv cn c8 i a7 d2 cz)/\Hid (Ah wr g0 32 ZG)/\Hid (Di (leftOf x) T.length ⟨T,[],[]⟩ x.rules=Di (leftOf x) T.length i ((rs.drop k).map Bm.r))/\Hid (Lj i.R)) (fun aj _=>nr-(intOf aj).toNat)
  case atStart=>exact⟨0,⟨T,[],[]⟩,_,ei,gv,[],d3,d1,AP _,rfl,au,dc,Hd (by rw[<-HX.out];rfl),Hd (fun r P=>by cases P)⟩
  case round=>
   rename World=>w9
   obtain⟨k,i,cv,cn,c8,a7,d2,cz,hk,rfl,HA,HG,HY,HN⟩:=hrel;by_cases az:k<nr
   ·obtain⟨q,hq⟩:∃q,rs[k]?=some q:=⟨_,eG (by rw[di.out];exact az)⟩
    obtain⟨g,c,aq,ds⟩:=f7.out k q hq;obtain⟨e0,e1,e2,e3⟩:=ds w9 HA.out.below;cases aq
    have bd:=mG hq;have bv:Hid (Di (leftOf x) T.length ⟨T,[],[]⟩ x.rules=Di (leftOf x) T.length i (q.r::(rs.drop (k+1)).map Bm.r)):=Hd (by rw[HY.out,Tc hq];rfl);obtain⟨⟨Aq,cq,cj⟩,gw,e7⟩:=fb.out q bd;have f5:=Hd (fun j s R=>by obtain⟨g,c,h1,p⟩:=e7 j s R;rw[cj]at h1;exact(⟨g,c,h1,p⟩:∃g c,Value.slice Aq q.ss.length cq=.slice (some ⟨g,0,none⟩) q.ss.length c/\∀o,Below I.heap.size I o->o.cell? ⟨g,j*2,none⟩=some s.v/\o.cell? ⟨g,j*2+1,none⟩=some (.int .i64 s.s.p)));rw[cj]at e3;have dd:=Hd (HR.out.Hg q bd);obtain⟨ch,e8⟩:=fc.out q bd
    have bq:=Hd e8;have ff:=Hd (Ah.new w9 208 #[.int .i64 q.left.k,.string (str q.left.s),.int .i64 q.left.p,(.slice Aq q.ss.length cq)]);have bk:=Hd (HA.out.alloc (.cells #[.int .i64 q.left.k,.string (str q.left.s),.int .i64 q.left.p,(.slice Aq q.ss.length cq)] 208));have eu:Hid (Ah (w9.alloc (.cells #[.int .i64 q.left.k,.string (str q.left.s),.int .i64 q.left.p,(.slice Aq q.ss.length cq)] 208)) g0 32 ZG):=Hd (HG.out.alloc _);have b9:=Hd (dK bk.out q.left ch T.length (T.length:Int) rfl);have ca:=HA.out.cells;obtain⟨d0,_,_,_,_,_,ca⟩:=ca;clear hq ds e7 e8 bd cj
    cases af:EO T.length i q.left with
    | error f=>
     have HE:=Hd (b5.out (.error f) (by rw[bv.out,Di,JB,show q.r.left=q.left from rfl,af]));rw[af]at b9;clear af ch;go_wp2_with (go_at_call 123;refine b9.out.mono ?_;intro e w2 hx;obtain⟨ab,hx⟩:=hx;have hx:e=_:=hx;subst hx)
     refine⟨rfl,ab,?_⟩;rw[HE.out];exact⟨_,rfl,rfl⟩
    | ok b2=>
     have fi:Hid (Di (leftOf x) T.length ⟨T,[],[]⟩ x.rules=match Fw (leftOf x) q.left.s b2 (q.ss.map GS.s) with | .error e=>.error e | .ok i=>Di (leftOf x) T.length i ((rs.drop (k+1)).map Bm.r)):=Hd (by rw[bv.out,Di,JB,show q.r.left=q.left from rfl,af];have e1:q.r.Gw=q.ss.map GS.s:=rfl;simp only[e1];cases Fw (leftOf x) q.left.s b2 (q.ss.map GS.s)<;>rfl)
     have ey:Hid (Lj b2.R):=Hd (by rw[aI af];exact HN.out);rw[af]at b9;clear af ch bv;go_wp2_with (
             go_at_call 123;refine b9.out.mono ?_;intro e w2 hx;obtain⟨ab,rfl,ga,g7,em,ek,U,z2,z3,z4⟩:=hx
             have eo:=Hd U;have ak:=Hd (Ni bk.out z2 eu.out (by decide) (by decide));have ba:=Hd (Ni bk.out z2 ff.out (by decide) (by decide));have x3:=ba.out.cell 3;simp at x3;have cm:=ba.out.lt;clear ab U z2 z3 z4)
     have ej:=ba.out.cell 1;simp at ej;generalize w9.heap.size=xb at *;generalize dz:q.ss.length=nq at *;have dh:=Hd dz;clear dz x3 ej e0 e1 e2 e3 d0 c0 k3 k4 cm;go_loopw [41] (fun j wy=>∃(m:Nat) (b3:Bd) (cy cp c9:Value) (bz:List BC) (bi bh:DataW Unit),m<=nq/\j=.int .i64 m/\Hid (BO I wy bb tm nm rb cy cp c9 b3 bz bi bh)/\Hid (Ah wy g0 32 ZG)/\Hid (Ah wy xb 208 #[.int .i64 q.left.k,.string (str q.left.s),.int .i64 q.left.p,.slice Aq nq cq])/\Hid (Di (leftOf x) T.length ⟨T,[],[]⟩ x.rules=match Fw (leftOf x) q.left.s b3 ((q.ss.drop m).map GS.s) with | .error e=>.error e | .ok i=>Di (leftOf x) T.length i ((rs.drop (k+1)).map Bm.r))/\Hid (Lj b3.R)) (fun j _=>nq-(intOf j).toNat)
     case atStart=>exact⟨0,b2,ga,g7,c8,a7,em,ek,AP _,rfl,eo,ak,ba,fi,ey⟩
     case round=>
      obtain⟨m,b3,cy,cp,c9,bz,bi,bh,hm,rfl,bl,a0,bu,bw,de⟩:=hrel;by_cases cf:m<nq
      ·obtain⟨s,R⟩:∃s,q.ss[m]?=some s:=⟨_,eG (by rw[dh.out];exact cf)⟩
       obtain⟨g2,c2,fw,dt⟩:=f5.out m s R;obtain⟨s0,s1⟩:=dt wr bl.out.below;cases fw
       have ar:=mG R;obtain⟨bf,bx,ah⟩:=Bw (show I.ownsRow B 201 3 s.v s.s.l.length (s.s.l.flatMap Tk.cells) from dd.out.2 s ar);rw[ah]at s0;have fg:=Hd (bu.out.alloc (.cells #[.slice bf s.s.l.length bx,.int .i64 s.s.p] 211));have b8:=Hd (a0.out.alloc (.cells #[.slice bf s.s.l.length bx,.int .i64 s.s.p] 211));have bm:=Hd (bl.out.alloc (.cells #[.slice bf s.s.l.length bx,.int .i64 s.s.p] 211));have av:=Hd (aP bm.out HR.out HX.out q.left.s s (dd.out.2 s ar) (bq.out s ar).1 (bq.out s ar).2);rw[ah]at av;have x1:=bu.out.cell 1
       simp at x1;have cm:=bu.out.lt;have d6:=Hd (Tc R);have fa:=Hd (fun b4 (h:D3 (leftOf x) b3 q.left.s s.s=.ok b4)=>bA (bq.out s ar).2 de.out h);clear R dt ar ah;generalize s.s.l.length=h4 at *;cases ag:D3 (leftOf x) b3 q.left.s s.s with
       | error f=>
        have HE:=Hd (b5.out (.error f) (by rw[bw.out,d6.out,List.map_cons,Fw,ag]));rw[ag]at av;clear ag;go_wp2_with (go_at_call 124;refine av.out.mono ?_;intro e w2 hx;obtain⟨ab,hx⟩:=hx;have hx:e=_:=hx;subst hx)
        refine⟨rfl,ab,?_⟩;rw[HE.out];exact⟨_,rfl,rfl⟩
       | ok b4=>
        have fj:Hid (Di (leftOf x) T.length ⟨T,[],[]⟩ x.rules=match Fw (leftOf x) q.left.s b4 ((q.ss.drop (m+1)).map GS.s) with | .error e=>.error e | .ok i=>Di (leftOf x) T.length i ((rs.drop (k+1)).map Bm.r)):=Hd (by rw[bw.out,d6.out,List.map_cons,Fw,ag]);have ez:=Hd (fa.out b4 ag);rw[ag]at av;clear ag;go_wp2_with (
                go_at_call 124;refine av.out.mono ?_;intro e w2 hx;obtain⟨ab,rfl,gb,g8,fq,fp,en,el,U,z2,_,_,_⟩:=hx
                have ep:=Hd U;have a2:=Hd (RF bm.out z2 b8.out (by decide) (by decide) (by decide));have fh:=Hd (RF bm.out z2 fg.out (by decide) (by decide) (by decide));clear ab U z2)
        go_roundw
        case rel=>exact⟨m+1,b4,gb,g8,fq,fp,en,el,by omega,by go_num,ep,a2,fh,fj,ez⟩
        case measure=>simp[intOf];omega
      ·obtain rfl:m=nq:=by omega
       have fk:Hid (Di (leftOf x) T.length ⟨T,[],[]⟩ x.rules=Di (leftOf x) T.length b3 ((rs.drop (k+1)).map Bm.r)):=Hd (by rw[bw.out,List.drop_of_length_le (by have:=dh.out;omega)];rfl);go_wp2;go_roundw
       case rel=>exact⟨k+1,b3,cy,cp,c9,bz,bi,bh,by omega,by go_num,bl,a0,fk,de⟩
       case measure=>simp[intOf];omega
   ·obtain rfl:k=nr:=by omega
    have HE:Hid (Gh x=.ok (Ha x i)):=Hd (b5.out (.ok i) (by rw[HY.out,List.drop_of_length_le (by have:=di.out;omega)];rfl));have gq:a7.length<=300:=by have h1:=HA.out.names;have p:=HA.out.lr;rw[<-h1,lM]at p;exact p
    obtain⟨Ag,cg,aq⟩:=Bw HA.out.fg;subst aq;have ev:=Hd (DU.of HA.out);obtain⟨d0,_,_,_,_,d7,ca⟩:=HA.out.cells;have f4:Hid (∀u∈a7,∃a r,u.l=a::r/\r.length<=100000):=Hd (fun u hu=>by
     have:=HN.out u.l (by rw[<-HA.out.names];exact List.mem_map_of_mem hu);cases hl:u.l with
     | nil=>exact absurd hl this.1
     | cons a r=>exact⟨a,r,rfl,by have p:=this.2;rw[hl]at p;simp at p;omega⟩)
    have dg:Hid (a7.map BC.l=i.R):=Hd HA.out.names;generalize dy:a7.length=ng at *;have aw:=Hd dy;clear dy az HA HN b5;go_wp2;clear d0 d7 c0 k3 k4 aa;go_loopg [58] ng (fun n aj wx=>∃(k:Nat) (a1:List Bt) (Rv:Value),n=ng-k/\k<=ng/\aj=.int .i64 k/\Hid (DU I wx bb (.pointer (some ⟨rb,0,none⟩)) (.map (some tm)) (.map (some nm)) cv cn (.slice Ag ng cg) Rv i a7 a1 0)/\Hid (Ah wx g0 32 ZG)/\Hid (a1.map Bt.g=(i.R.take k).map (GC i.T i.N)))
    case atStart=>exact⟨0,[],_,rfl,AP _,rfl,ev,HG,Hd rfl⟩
    case round=>
     rename World=>C
     obtain⟨k,a1,Rv,fv,hk,rfl,J,ak,bt⟩:=hrel;obtain⟨c0,c3,c4,c5,c6,c7,aa⟩:=J.out.cells;obtain⟨AR,cR,fs⟩:=Bw J.out.fR;subst fs;by_cases az:k<ng
     ·obtain⟨u,hu⟩:∃u,a7[k]?=some u:=⟨_,eG (by rw[aw.out];exact az)⟩
      have be:=mG hu;obtain⟨a,ra,cl,gx⟩:=f4.out u be;obtain⟨g,c,aq⟩:=IW J.out.fg (by rw[aw.out];omega);rw[aw.out]at aq;cases aq
      have cc:=J.out.fg;rw[aw.out]at cc;have u0:=Bf cc k (by omega);rw[pG,hu]at u0;simp only[Option.map_some]at u0;have fe:=Hd (J.out.rows u be);have ai:=J.out.rows u be;rw[cl]at ai;obtain⟨gu,cu,eg⟩:=IW ai (by simp);rw[eg]at u0 ai;have dn:Hid (∀o,Below C.heap.size C o->o.cell? ⟨gu,0,none⟩=some (.string (str a))/\∀j s,ra[j]?=some s->o.cell? ⟨gu,1+j,none⟩=some (.string (str s))):=Hd (fun o hb=>by have p:=(Aj.AH (X:=fun _=>False) hb).own ai (fun _ _=>id);refine⟨Bf p 0 (by simp),fun j s R=>?_⟩;obtain⟨hj,_⟩:=sG.1 R;have:=Bf p (1+j) (by simp;omega);rw[this,Nat.add_comm];simp only[List.map_cons,List.getElem?_cons_succ,pG,R];rfl)
      have dx:=TE ai;obtain⟨du,fu⟩:=cO ai;have f8:Hid ((i.R.take (k+1)).map (GC i.T i.N)=(i.R.take k).map (GC i.T i.N)++[(BY i.T i.N a,ra.map (BY i.T i.N))]):=Hd (by
       have h1:i.R[k]?=some (a::ra):=by rw[<-dg.out,pG,hu];exact congrArg some cl
       obtain⟨cd,e⟩:=sG.1 h1;rw[List.take_succ_eq_append_getElem cd,e,By];rfl)
      have a5:=Hd J.out.drew;have d9:=Hd (a5.out.find a);have d4:=Hd ((J.out.later (Ay C (.cells #[.int .i64 0,.slice none 0 0] 65))).drew);have da:=Hd (d4.out.find a);have dp:=Hd (Ah.new C 65 #[.int .i64 0,.slice none 0 0]);obtain⟨v0,_⟩:=dn.out C (Below.refl _ _);have dw:=World.block_lt_of_cell? C _ v0;simp at dw;have e9:(a::ra).length=ra.length+1:=rfl;rw[e9]at u0 dx du;unfold maxLen at dx;have fx:(0:Int)<((ra.length+1:Nat):Int):=by omega
      clear ai hu be eg cl cc e9 fe;generalize e5:ra.length=na at *;have df:=Hd e5;clear e5;generalize hF:BY i.T i.N a=F at *;go_upto_region 16 with fail
      go_cut [9,10] (fun uv xp wz=>uv=.slice (some ⟨gu,0,none⟩) (na+1) cu/\∃xb:Nat,xp=.pointer (some ⟨xb,0,none⟩)/\Hid (I4 C xb F (.slice none 0 0) [] wz))
      case first=>
       go_region_law (
                go_simp;go_at_call 125;first
                | (
                 (with_reducible refine d9.out.mono ?_);rintro e wi ⟨rfl,a8⟩
                 have ax:Hid (Below C.heap.size C wi):=Hd ((Iv C).trans a8);clear a8)
                | (
                 (with_reducible refine da.out.mono ?_);rintro e wi ⟨rfl,a8⟩
                 have ax:Hid (Below C.heap.size C wi):=Hd ((Ay C _).trans (((Iv _).trans a8).mono (by simp)));have ay:Hid (Ah wi C.heap.size 65 #[.int .i64 0,.slice none 0 0]):=Hd (dp.out.below ((Iv _).trans a8) (by simp));have y0:=ay.out.cell 0;have y1:=ay.out.cell 1;have y2:=ay.out.frozen 0;have y3:=ay.out.frozen 1;simp at y0 y1;clear a8))
       all_goals (
        go_wp2_with fail
        go_meet
        first
          | exact⟨rfl,_,rfl,Hd ⟨ax.out.trans ((Ay wi _).mono ax.out.size),Ah.new wi 65 #[.int .i64 F,.slice none 0 0],World.ownsRow_nil _ _ _ _,ax.out.size⟩⟩
          | exact⟨rfl,_,rfl,Hd ⟨(((Aj.AH (X:=fun _=>False) ax.out).set (p:=⟨C.heap.size,0,none⟩) (.inl (AG _)) _).set (p:=⟨C.heap.size,1,none⟩) (.inl (AG _)) _).below (AG _) (fun _ _=>id),by simpa using(ay.out.Bn 0 (.int .i64 F)).Bn 1 (.slice none 0 0),World.ownsRow_nil _ _ _ _,AG _⟩⟩)
      case rest=>
       obtain⟨rfl,xb,rfl,dj⟩:=hcut;have gf:=Hd (J.out.later dj.out.below);clear c0 c3 c4 c5 c6 c7 aa v0 u0 d9 da d4 a5 dp;go_upto_region 17 with fail
       go_cut [9,72,73,74] (fun _ sw nw iw wy=>wy=wc/\nw=.int .i64 na/\iw=.int .i64 0/\∃ad cw,sw=.slice (some ad) na cw/\(0<na->ad=⟨gu,1,none⟩))
       case first=>
        go_wp2_with fail
        all_goals (
          go_wp2_with fail
          go_meet
          first
           | exact⟨rfl,rfl,rfl,_,_,rfl,fun _=>rfl⟩
           | exact⟨rfl,rfl,rfl,_,_,rfl,fun h=>by omega⟩)
       case rest=>
        obtain⟨rfl,rfl,rfl,ad,cw,rfl,dq⟩:=hcut;have er:=Hd dq;clear dq fx du fu dw;have g5:=J.out.below.size;have gh:a1.length<=300:=by have h1:=congrArg List.length bt.out;simp at h1;omega
        go_wp2;go_loopg [74] na (fun n aj wy=>∃(j:Nat) (done:List Nat) (xv:Value),n=na-j/\j<=na/\aj=.int .i64 j/\done.length=j/\Hid (I4 C xb F xv done wy)/\Hid (done=(ra.take j).map (BY i.T i.N)))
        case atStart=>exact⟨0,[],_,rfl,AP _,rfl,rfl,dj,Hd rfl⟩
        case round=>
          obtain⟨_,done,xv,gp,hj,rfl,rfl,a6,d8⟩:=hrel;have bn:=Hd (J.out.later a6.out.below);have gy:=a6.out.below.size;obtain⟨Ax,cx,g6⟩:=Bw a6.out.own;subst g6;obtain⟨c0,c3,c4,c5,c6,c7,aa⟩:=bn.out.cells;have y0:=a6.out.box.cell 0;have y1:=a6.out.box.cell 1;have cm:=a6.out.box.lt;simp at y0 y1;by_cases cf:done.length<na
          ·obtain⟨t,ht⟩:∃t,ra[done.length]?=some t:=⟨_,eG (by rw[df.out];exact cf)⟩
           have e0:=(dn.out wr a6.out.below).2 done.length t ht;obtain rfl:=er.out (by omega);have et:Hid (done++[BY i.T i.N t]=(ra.take (done.length+1)).map (BY i.T i.N)):=Hd (by obtain⟨cd,e⟩:=sG.1 ht;have h1:=d8.out;rw[List.take_succ_eq_append_getElem cd,e,By,<-h1];rfl)
           have bo:=Hd (bn.out.drew.find t);have br:=Hd (a6.out.later (Iv wr));clear ht;generalize gg:BY i.T i.N t=F2 at *;go_wp2;go_region_law (first
            | (
              refine Ep Qy (.tmp 79) (.tmp 86) ?_ ?_ (base:=C.heap.size) (n:=done.length) (m:=1) (N:=done.length+1) (v:=.slice Ax done.length cx) (src:=.slice (some ⟨wi.heap.size,0,none⟩) 1 1) (xs:=done.map Mark) (news:=[.int .i64 F2]) ?_ ?_ ?_ ?_ ?_ ?_ ?_ ?_ ?_
              ·rfl
              ·rfl
              ·rfl
              ·rfl
              ·exact a9.out.own.alloc _
              ·exact RO wi _
              ·rfl
              ·unfold maxLen;omega
              ·omega
              ·simp;omega
              intro A3 fo w3 r1 r2 r3;have HF:=Hd (a9.out.app (s:=F2) r1 r3);have hX:Aj (fun k=>(Value.slice Ax done.length cx).ownBlock=some k) wi w3:=((Aj.refl _ wi).alloc (.cells #[.int .i64 F2] 3)).next (.Cw r3.1);have ae:=hX.An a9.out.box (CD a9.out.own a9.out.box (by decide));have U:=ae.cell 1;have zf:=ae.frozen 1;simp at U;clear r1 r2 r3 ae hX)
            | (
              go_simp;go_at_call 125;refine bo.out.mono ?_;rintro e wi ⟨rfl,a8⟩;have a9:=Hd (br.out.later a8);have gd:=a9.out.box.cell 1;have gz:=a9.out.below.size;have h2:=a9.out.box.lt;simp at gd;clear a8))
           all_goals go_wp2
           all_goals go_roundg (na-(done.length+1))
           all_goals first
            | (case measure=>omega)
            | (case rel=>exact⟨done.length+1,done++[F2],_,rfl,by omega,by go_num,by simp,HF,et⟩)
          ·obtain rfl:na=done.length:=by omega
           have es:Hid (done=ra.map (BY i.T i.N)):=Hd (by have h1:=d8.out;rw[Ds (by have:=df.out;omega)]at h1;exact h1)
           have a5:=Hd bn.out.drew;have br:=Hd (a6.out.later (Iv wr));have al:=Hd ((ak.out.below a6.out.below ak.out.lt).drew);have f6:Hid ((a1++[(⟨F,.slice Ax done.length cx,done⟩:Bt)]).map Bt.g=(i.R.take (k+1)).map (GC i.T i.N)):=Hd (by rw[By,bt.out,f8.out,<-es.out];rfl)
           go_wp2;go_region_law (
                  refine Ep Ww (.tmp 95) (.tmp 97) ?_ ?_ (base:=I.heap.size) (n:=a1.length) (m:=1) (N:=a1.length+1) (v:=.slice AR a1.length cR) (src:=.slice (some ⟨wr.heap.size,0,none⟩) 1 1) (xs:=a1.flatMap Bt.cells) (news:=[.int .i64 F,.slice Ax done.length cx]) ?_ ?_ ?_ ?_ ?_ ?_ ?_ ?_ ?_
                  ·rfl
                  ·rfl
                  ·rfl
                  ·rfl
                  ·exact a5.out.fR.alloc _
                  ·exact Bc.An (c:=1) (Ah.new wr.drew 65 #[.int .i64 F,.slice Ax done.length cx]) rfl (by simp[Value.oneCell'])
                  ·rfl
                  ·unfold maxLen;omega
                  ·omega
                  ·simp;omega
                  intro A3 fo w3 r1 r2 r3;have HF:=Hd (a5.out.app (q:=⟨F,.slice Ax done.length cx,done⟩) (Ig br.out.own g5) r1 r3);have a0:=Hd (HF.out.2.An al.out (by
                   rintro(hh|hh)
                   ·exact CD a5.out.fR al.out (by decide) hh
                   ·subst hh;exact Ah.A8 al.out a5.out.An (by decide) rfl))
                  have hX:Aj (fun k=>(Value.slice AR a1.length cR).ownBlock=some k) wr.drew w3:=((Aj.refl _ wr.drew).alloc (.cells #[.int .i64 F,.slice Ax done.length cx] 65)).next (.Cw r3.1);have ae:=hX.An a5.out.An (CD a5.out.fR a5.out.An (by decide));have z5:=ae.cell 5;have zf:=ae.frozen 5;simp at z5;clear r1 r2 r3 ae hX)
           all_goals go_wp2
           all_goals go_roundg (ng-(k+1))
           all_goals first
            | (case measure=>omega)
            | (case rel=>exact⟨k+1,a1++[⟨F,.slice Ax done.length cx,done⟩],_,rfl,by omega,by go_num,Hd HF.out.1,a0,f6⟩)
     ·obtain rfl:k=ng:=by omega
      have dk:Hid (a1.map Bt.g=i.R.map (GC i.T i.N)):=Hd (by have h1:=bt.out;rw[Ds (by have p:=dg.out;have h3:=aw.out;rw[<-p,lM];omega)]at h1;exact h1)
      obtain⟨AT,cT,ft⟩:=Bw J.out.ft;subst ft;obtain⟨AN,cN,fr⟩:=Bw J.out.fn;subst fr;have gj:=J.out.lt;have ao:=Hd (J.out.start ((i.T.length:Int)+1));have a0:Hid (Ah (C.setCell ⟨bb,6,none⟩ (.int .i64 ((i.T.length:Int)+1))) g0 32 ZG):=Hd (ak.out.BE (p:=⟨bb,6,none⟩) (by rintro rfl;exact Ah.A8 ak.out J.out.An (by decide) rfl) _);have b6:=J.out.An.frozen 6;clear fv az;go_upto_region 25 with fail
      clear c0 c3 c4 c5 c6 c7 aa b6;generalize C.setCell ⟨bb,6,none⟩ (.int .i64 ((i.T.length:Int)+1))=wS at *;obtain⟨c0,c3,c4,c5,c6,c7,aa⟩:=ao.out.1.cells;obtain⟨k3,_⟩:=d5.out wS ao.out.1.below;have z0:=a0.out.cell 0;have U:=a0.out.cell 1;have z2:=a0.out.cell 2;have z3:=a0.out.cell 3;have f0:=a0.out.frozen 0;have f1:=a0.out.frozen 1;have f2:=a0.out.frozen 2;have f3:=a0.out.frozen 3;simp[ZG]at z0 U z2 z3;rcases fd.out with⟨b0,rfl⟩|⟨st,sr,b0,e6,g,c,ah,eb⟩
      ·have bp:=Hd (fun u0 u1 u2 u3=>DU.last (g:=Ha x i) ao.out.1 a0.out eh rfl rfl dk.out (by unfold Ha;rw[b0];simp) u0 u1 u2 u3)
       clear b0;go_wp2;refine bodyPost_ret (v:=.agg #[.slice AT i.T.length cT,.slice AN i.N.length cN,.slice AR a1.length cR,.int .i64 ((i.T.length:Int)+1)]) (by simp[results,Tryz.results69,go_sem,z0,U,z2,z3]) rfl ?_;rw[HE.out];exact bp.out _ _ _ _
      ·cases ah
       have g3:=eb wS ao.out.1.below;have bo:=Hd (ao.out.1.drew.find st.s);have ew:Hid ((Ha x i).s=BY i.T i.N st.s):=Hd (by unfold Ha;rw[b0]);have al:=Hd a0.out.drew;have f9:=Hd ao.out.1.drew;clear b0 eb;generalize BY i.T i.N st.s=F3 at *;go_wp2;go_region_law (
                go_simp;go_at_call 125;refine bo.out.mono ?_;rintro e wf ⟨rfl,cb⟩;have b7:=Hd (f9.out.later cb);have b8:=Hd (al.out.below cb al.out.lt);have fl:=b7.out.cells.2.2.2.2.1;have fm:=b7.out.An.frozen 6;clear cb)
       all_goals have dm:=Hd (b7.out.start (F3:Int))
       all_goals have a2:Hid (Ah (wf.setCell ⟨bb,6,none⟩ (.int .i64 (F3:Int))) g0 32 ZG):=Hd (b8.out.BE (p:=⟨bb,6,none⟩) (by rintro rfl;exact Ah.A8 b8.out b7.out.An (by decide) rfl) _)
       all_goals generalize wf.setCell ⟨bb,6,none⟩ (.int .i64 (F3:Int))=wT at *
       all_goals clear c0 c3 c4 c5 c6 c7 aa k3 z0 U z2 z3 f0 f1 f2 f3 g3 fl fm
       all_goals obtain⟨c0,c3,c4,c5,c6,c7,aa⟩:=dm.out.1.cells
       all_goals have z0:=a2.out.cell 0
       all_goals have U:=a2.out.cell 1
       all_goals have z2:=a2.out.cell 2
       all_goals have z3:=a2.out.cell 3
       all_goals have f0:=a2.out.frozen 0
       all_goals have f1:=a2.out.frozen 1
       all_goals have f2:=a2.out.frozen 2
       all_goals have f3:=a2.out.frozen 3
       all_goals simp[ZG]at z0 U z2 z3
       all_goals have bp:=Hd (fun u0 u1 u2 u3=>DU.last (g:=Ha x i) dm.out.1 a2.out eh rfl rfl dk.out (by rw[ew.out]) u0 u1 u2 u3)
       all_goals go_wp2
       all_goals refine bodyPost_ret (v:=.agg #[.slice AT i.T.length cT,.slice AN i.N.length cN,.slice AR a1.length cR,.int .i64 (F3:Int)]) (by simp[results,Tryz.results69,go_sem,z0,U,z2,z3]) rfl ?_
       all_goals rw[HE.out]
       all_goals exact bp.out _ _ _ _
end
section
open Go.RowKit Go.Maps
theorem fQ{P:Program}{fn:Func}{i:Frame}{cs:List Frame}{R:Ending->FrameMode->World->Prop}{tmps:Array Value}{w:World}{u:FrameMode}(j:fn.results=#[])(h:R (.returned (.tuple #[])) u w):bodyPostS P fn i cs R .normal {tmps:=tmps,defers:=[]} ({i with mode:=u}::cs) w:=
 ⟨rfl,u,rfl,_,results_none j _ _ _,h⟩
theorem MT{W:World}{n:Nat}{t:TypeId}{cs:Array Value}(h:W.heap.size=n):Ah (W.alloc (.cells cs t)) n t cs:=h▸Ah.new W t cs
theorem Yg{w:World}{o l:Nat} :
  CallsD Tryz.prog 66 #[.pointer (some ⟨o,0,none⟩),.pointer (some ⟨l,0,none⟩)] .returning w fun e p w'=>e=.returned (.tuple #[])/\p=.returning/\w'=w:=by
 have t:=PQ;refine callsD_of_wpS Tryz.func66 rfl fun I C i=>?_
 simp only[Tryz.ntmps66,List.size_toArray,List.length_cons,List.length_nil,Nat.reduceAdd,Nat.reduceSub,Array.replicate_succ,Array.replicate_zero,List.push_toArray,List.append_toArray,List.nil_append,List.cons_append];apply wpS_seq;apply wpS_region;simp[wpOpsS,go_sem,recoverD,i,Exit.thenS];refine wpS_of_wp ?_;have j:=Hd i;clear i;go_wp2;exact RZ rfl j.out ⟨rfl,rfl,rfl⟩
theorem Qi{w:World}{j o:Nat}{k p:Int}{v:Value}{R:List PanicEntry}{z0 z1 z2 z3:Value}(l:Ah w j 32 #[z0,z1,z2,z3])(t:Ah w o 81 #[v])(J:k≠0) :
  CallsD Tryz.prog 66 #[.pointer (some ⟨j,0,none⟩),.pointer (some ⟨o,0,none⟩)] (.panicking ({v:=.iface 134 (.agg #[.int .i64 k,.int .i64 p]),recovered:=false}::R)) w fun e u' w'=>
   e=.returned (.tuple #[])/\u'=.panicking ({v:=.iface 134 (.agg #[.int .i64 k,.int .i64 p]),recovered:=true}::R)/\∃b,Ah w' b 204 #[.int .i64 k,.int .i64 p]/\Ah w' j 32 ZG/\Ah w' o 81 #[.iface 202 (.pointer (some ⟨b,0,none⟩))]/\Aj (fun i=>i=j\/i=o) w w':=by
 have a0:=QG;have a2:=RJ;have C:o≠j:=Ah.A8 t l (by decide);have a3:=l.lt;have a1:=t.lt;have c0:=l.cell 0;have c1:=l.cell 1;have c2:=l.cell 2;have c3:=l.cell 3;have f0:=l.frozen 0;have f1:=l.frozen 1;have f2:=l.frozen 2;have f3:=l.frozen 3;have d0:=t.cell 0;have df:=t.frozen 0;simp at c0 c1 c2 c3 d0;have P:(k==0)=false:=by simpa using J
 have U:=Hd l;have T:=Hd t;have HN:=Hd (Gx k P p (w.alloc (.cells #[.int .i64 k,.int .i64 p] 134)));clear l t J P;refine callsD_of_wpS Tryz.func66 rfl fun c₀ cs I=>?_
 simp only[Tryz.ntmps66,List.size_toArray,List.length_cons,List.length_nil,Nat.reduceAdd,Nat.reduceSub,Array.replicate_succ,Array.replicate_zero,List.push_toArray,List.append_toArray,List.nil_append,List.cons_append];apply wpS_seq;apply wpS_region;simp[wpOpsS,go_sem,recoverD,I,Exit.thenS];refine wpS_of_wp ?_;have HU:=Hd I;clear I;go_wp2_with (go_at_call 67;refine HN.out.mono ?_;rintro e w' ⟨rfl,rfl⟩)
 refine fQ rfl ⟨rfl,rfl,w.heap.size+1,MT (by simp),?_,?_,?_⟩
 ·simpa [ZG] using(((((((U.out.Bn 0 (.slice none 0 0)).Bn 1 (.slice none 0 0)).Bn 2 (.slice none 0 0)).Bn 3 (.int .i64 0)).BE (p:=⟨o,0,none⟩) (by simpa using Ne.symm C) (.iface 202 (.pointer (some ⟨w.heap.size+1,0,none⟩)))).alloc (.cells #[.int .i64 k,.int .i64 p] 134)).alloc (.cells #[.int .i64 k,.int .i64 p] 204))
 ·simpa using(((((((T.out.BE (p:=⟨j,0,none⟩) C (.slice none 0 0)).BE (p:=⟨j,1,none⟩) C (.slice none 0 0)).BE (p:=⟨j,2,none⟩) C (.slice none 0 0)).BE (p:=⟨j,3,none⟩) C (.int .i64 0)).Bn 0 (.iface 202 (.pointer (some ⟨w.heap.size+1,0,none⟩)))).alloc (.cells #[.int .i64 k,.int .i64 p] 134)).alloc (.cells #[.int .i64 k,.int .i64 p] 204))
 ·exact(((((((Aj.refl (fun i=>i=j\/i=o) w).set (p:=⟨j,0,none⟩) (.inr (.inl rfl)) _).set (p:=⟨j,1,none⟩) (.inr (.inl rfl)) _).set (p:=⟨j,2,none⟩) (.inr (.inl rfl)) _).set (p:=⟨j,3,none⟩) (.inr (.inl rfl)) _).set (p:=⟨o,0,none⟩) (.inr (.inr rfl)) _).alloc _).alloc _
theorem Ud{w:World}{B:Nat}{v:Value}{l:List Tk}(h:w.ownsRow B 201 3 v l.length (l.flatMap Tk.cells))(hl:0<l.length):EZ w v l:=by
 rcases h.2 with⟨_,h0⟩|⟨g,cap,o,rfl,h1,t,C,I,h5,J⟩
 ·omega
 ·refine⟨g,0,cap,o,rfl,⟨t,⟨C,I⟩,fun k a0 T=>?_⟩⟩
  obtain⟨R,U⟩:=sG.1 T;have i:∀j,j<3->o[0+k*3+j]?=(Tk.cells a0)[j]?:=fun j P=>by have e:=CZ Tk.cells 3 Tk.MI l k j R P;rw[U]at e;rw[<-e,<-J,List.getElem?_take,if_pos (by omega),Nat.zero_add];simp
  have p:=i 0 (by omega);rw[Nat.add_zero]at p;exact⟨p,i 1 (by omega),i 2 (by omega)⟩
def Ss(w:World)(r:Except Bi PG)(e:Ending)(w':World):Prop:=
 Below w.heap.size w w'/\match r with
 | .ok g=>∃l j i R,e=.returned (.tuple #[.agg #[l,j,i,.int .i64 g.s],.nilIface])/\Has w w' l j i g R
 | .error f=>∃v,e=.returned (.tuple #[.agg #[.slice none 0 0,.slice none 0 0,.slice none 0 0,.int .i64 0],v])/\Ji w' v f
theorem Has.mono{w l w':World}{tv nv j:Value}{g:PG}{R:List Bt}(h:Has l w' tv nv j g R)(i:w.heap.size<=l.heap.size):Has w w' tv nv j g R:=
 ⟨Ig h.ft i,Ig h.fn i,Ig h.fR i,fun q o=>Ig (h.Iu q o) i,h.r⟩
theorem Has.Aw{X:Nat->Prop}{w o w':World}{tv nv p:Value}{g:PG}{R:List Bt}(h:Has o w tv nv p g R)(j:Aj X w w')(l:∀k,o.heap.size<=k->¬X k):Has o w' tv nv p g R:=
 ⟨j.own h.ft (fun k i=>l k (BU h.ft k i).1),j.own h.fn (fun k i=>l k (BU h.fn k i).1),j.own h.fR (fun k i=>l k (BU h.fR k i).1),fun q t=>j.own (h.Iu q t) (fun k i=>l k (BU (h.Iu q t) k i).1),h.r⟩
theorem ZY(v:Value)(w:World):(binOp .neq 81 (.iface 202 v) .nilIface).run Tryz.prog w=.ok (.bool true) w:=by kernel_rfl
theorem Zk(w:World):(binOp .neq 81 .nilIface .nilIface).run Tryz.prog w=.ok (.bool false) w:=by kernel_rfl
theorem VQ(w:World):(Instr.makeMap 137 none).run Tryz.prog w=.ok (.map (some w.heap.size)) (w.alloc (.map #[] 0)):=by kernel_rfl
theorem Yu{i:List PanicEntry}(h:(i.all fun p=>!p.goexit)=true):i.dropWhile (fun x=>!x.goexit)=[]:=by
 induction i with
 | nil=>rfl
 | cons a r j=>simp only[List.all_cons,Bool.and_eq_true]at h;rw[List.dropWhile_cons,if_pos h.1,j h.2]
theorem iA(s:ByteArray)(hs:s.size<=4611686018427387904)(w:World)(hm:Gk w):Calls Tryz.prog 29 #[.string s] w (Ss w (E9 s.data.toList)):=by
 have c8:∀(fn:Fn) (first cap:Array Value) (w:World),(Instr.makeFunc fn first cap).run Tryz.prog w=.ok (.func fn first cap) w:=fun _ _ _ _=>rfl
 have n1:=ZY;have n2:=Zk;have c9:=VQ;have ax:Below w.heap.size w ((w.alloc (.cells ZG 32)).alloc (.cells #[.nilIface] 81)):=(Ay w _).alloc (by simp) _;have ab:=Hd (VG s hs ((w.alloc (.cells ZG 32)).alloc (.cells #[.nilIface] 81)) (hm.later ax));have aj:Hid (Ah ((w.alloc (.cells ZG 32)).alloc (.cells #[.nilIface] 81)) w.heap.size 32 ZG):=Hd ((Ah.new w 32 ZG).alloc _);have ah:Hid (Ah ((w.alloc (.cells ZG 32)).alloc (.cells #[.nilIface] 81)) (w.heap.size+1) 81 #[.nilIface]):=Hd (MT (by simp));have ad:=Hd ax;have cc:w.heap.size+1<((w.alloc (.cells ZG 32)).alloc (.cells #[.nilIface] 81)).heap.size:=by simp
 clear ax hm;cases C:tokens s.data.toList with
 | error f=>
  have HE:Hid (E9 s.data.toList=.error f):=Hd (by unfold E9;rw[C]);rw[C]at ab;clear C
  go_enter_defers Tryz.func29,Tryz.ntmps29
  go_wp2_with (
      go_at_call 65;refine ab.out.mono ?_;intro e w1 l;obtain⟨a0,v,rfl,b,rfl,bc⟩:=l
      have av:=Hd (aj.out.below a0 aj.out.lt);have a3:=Hd (ah.out.below a0 ah.out.lt);have b6:=Hd bc;have ao:=Hd (ad.out.trans (a0.mono ad.out.size));have o:=a3.out.cell 0;have df:=a3.out.frozen 0;simp at o;clear a0 bc)
  generalize ay:w.heap.size=i at *;generalize bq:i+1=j at *;have az:j≠i:=by omega
  have I:=Hd (av.out.BE (p:=⟨j,0,none⟩) (Ne.symm az) (.iface 202 (.pointer (some ⟨b,0,none⟩))));have a5:Hid (Ah (w1.setCell ⟨j,0,none⟩ (.iface 202 (.pointer (some ⟨b,0,none⟩)))) j 81 #[.iface 202 (.pointer (some ⟨b,0,none⟩))]):=Hd (by simpa using a3.out.Bn 0 (.iface 202 (.pointer (some ⟨b,0,none⟩))));have ar:=Hd (b6.out.BE (p:=⟨j,0,none⟩) (Ah.A8 b6.out a3.out (by decide)) (.iface 202 (.pointer (some ⟨b,0,none⟩))));have ae:=Hd ((Aj.AH (X:=fun _=>False) (a:=w) (b:=w1) (by rw[ay];exact ao.out)).set (p:=⟨j,0,none⟩) (.inl (by show w.heap.size<=j;omega)) (.iface 202 (.pointer (some ⟨b,0,none⟩))))
  clear o df;generalize w1.setCell ⟨j,0,none⟩ (.iface 202 (.pointer (some ⟨b,0,none⟩)))=p at *;have J:=I.out.cell 0;have P:=I.out.cell 1;have R:=I.out.cell 2;have T:=I.out.cell 3;have f0:=I.out.frozen 0;have f1:=I.out.frozen 1;have f2:=I.out.frozen 2;have f3:=I.out.frozen 3;have o:=a5.out.cell 0;have df:=a5.out.frozen 0;simp[ZG]at J P R T o
  go_region
  all_goals go_wp2
  all_goals simp only[bodyPostD,Leaves]
  all_goals refine⟨.tuple #[.agg #[.slice none 0 0,.slice none 0 0,.slice none 0 0,.int .i64 0],.iface 202 (.pointer (some ⟨b,0,none⟩))],by simp[results,Tryz.results29,go_sem,J,P,R,T,o],?_⟩
  all_goals rw[HE.out]
  all_goals
   have al:b≠i:=Ah.A8 ar.out I.out (by decide);have bp:b≠j:=Ah.A8 ar.out a5.out (by decide);have bo:=(((((ae.out.set (p:=⟨i,0,none⟩) (.inl (by show w.heap.size<=i;omega)) (.slice none 0 0)).set (p:=⟨i,1,none⟩) (.inl (by show w.heap.size<=i;omega)) (.slice none 0 0)).set (p:=⟨i,2,none⟩) (.inl (by show w.heap.size<=i;omega)) (.slice none 0 0)).set (p:=⟨i,3,none⟩) (.inl (by show w.heap.size<=i;omega)) (.int .i64 0)).set (p:=⟨j,0,none⟩) (.inl (by show w.heap.size<=j;omega)) (.iface 202 (.pointer (some ⟨b,0,none⟩)))).drew;exact⟨bo.below (AG _) (fun _ _=>id),_,rfl,b,rfl,(((((ar.out.BE (p:=⟨i,0,none⟩) al _).BE (p:=⟨i,1,none⟩) al _).BE (p:=⟨i,2,none⟩) al _).BE (p:=⟨i,3,none⟩) al _).BE (p:=⟨j,0,none⟩) bp _).drew⟩
 | ok ts=>
  have a4:=Hd (eP C);have a3:Hid (∀r,Fz ts=r->E9 s.data.toList=match r with | .error f=>.error f | .ok x=>Gh x):=Hd (fun r hr=>by unfold E9;rw[C];simp only;rw[hr];cases r<;>rfl);rw[C]at ab;clear C
  go_enter_defers Tryz.func29,Tryz.ntmps29
  go_wp2_with (
      go_at_call 65;refine ab.out.mono ?_;intro e w1 l;obtain⟨a0,v,rfl,b1⟩:=l
      have av:=Hd (aj.out.below a0 aj.out.lt);have a8:=Hd (ah.out.below a0 ah.out.lt);have ao:=Hd (ad.out.trans (a0.mono ad.out.size));have ba:=Hd b1;obtain⟨A,c,hv⟩:=Bw b1;subst hv;have o:=a8.out.cell 0;have df:=a8.out.frozen 0;have br:=a8.out.lt;simp at o;clear a0 b1)
  generalize ay:w.heap.size=i at *;generalize bq:i+1=j at *;have az:j≠i:=by omega
  have I:=Hd (av.out.BE (p:=⟨j,0,none⟩) (Ne.symm az) .nilIface);have a5:Hid (Ah (w1.setCell ⟨j,0,none⟩ .nilIface) j 81 #[.nilIface]):=Hd (by simpa using a8.out.Bn 0 .nilIface);have ae:=Hd ((Aj.AH (X:=fun _=>False) (a:=w) (b:=w1) (by rw[ay];exact ao.out)).set (p:=⟨j,0,none⟩) (.inl (by show w.heap.size<=j;omega)) .nilIface);have b9:=Hd (EB ba.out (p:=⟨j,0,none⟩) (CD ba.out a8.out (by decide)) .nilIface);have bh:(w1.setCell ⟨j,0,none⟩ .nilIface).heap.size=w1.heap.size:=by simp
  clear o df br;generalize w1.setCell ⟨j,0,none⟩ .nilIface=p at *;rw[<-bh];clear bh;have bu:0<ts.length:=by obtain⟨a2,r,h⟩:=a4.out.ended.cons;rw[h];simp
  have b0:=BU b9.out;have c7:=I.out.lt;have bz:=a5.out.lt;have bw:i<=((w.alloc (.cells ZG 32)).alloc (.cells #[.nilIface] 81)).heap.size:=by simp;omega
  have b7:=Hd (XB (w:=(p.alloc (.map #[] 0)).alloc (.cells #[.slice A ts.length c,.slice none 0 0,.slice none 0 0,.slice none 0 0,.slice none 0 0,.map (some p.heap.size)] 140)) (B:=p.heap.size+1+1) (rb:=p.heap.size+1) (mb:=p.heap.size) (tb:=(Value.slice A ts.length c).ownBlock) (l:=ts)
   ⟨⟨⟨_,MT (by simp),Ud (((Aj.refl (fun _=>False) p).alloc _ |>.alloc _).own b9.out (fun _ _=>id)) bu,rfl⟩,a4.out.ended,fun e=>by have:=(b0 _ e).2;omega⟩,World.ownsRow_nil _ _ _ _,World.ownsRow_nil _ _ _ _,World.ownsRow_nil _ _ _ _,(fun g hg=>by cases hg),by omega,(fun g hg=>by have:=(b0 g hg).2;omega),by simp,by simpa using a4.out.len,by simpa using a4.out.len,by simpa using a4.out.len⟩
   (World.ownsMap.alloc (World.ownsMap_made p Tryz.prog 9 (plainElem Tryz.prog 3)) _) (by omega) (by omega) (fun u hu=>(a4.out.all u hu).1))
  have b8:=Hd ((I.out.alloc (.map #[] 0)).alloc (.cells #[.slice A ts.length c,.slice none 0 0,.slice none 0 0,.slice none 0 0,.slice none 0 0,.map (some p.heap.size)] 140));have b4:=Hd ((a5.out.alloc (.map #[] 0)).alloc (.cells #[.slice A ts.length c,.slice none 0 0,.slice none 0 0,.slice none 0 0,.slice none 0 0,.map (some p.heap.size)] 140));have bk:=Hd ((ae.out.alloc (.map #[] 0)).alloc (.cells #[.slice A ts.length c,.slice none 0 0,.slice none 0 0,.slice none 0 0,.slice none 0 0,.map (some p.heap.size)] 140));have ca:w.heap.size<=p.heap.size:=ae.out.size;clear b0 bw
  generalize (p.alloc (.map #[] 0)).alloc (.cells #[.slice A ts.length c,.slice none 0 0,.slice none 0 0,.slice none 0 0,.slice none 0 0,.map (some p.heap.size)] 140)=w3 at *;generalize p.heap.size=mb at *;have au:=Hd (U9 a4.out);refine b7.out.mono ?_;intro e t l;obtain⟨an,l⟩:=l;have ai:=Hd (an.An b8.out (by omega));have af:=Hd (an.An b4.out (by omega));have aq:Hid (Aj (fun _=>False) w t):=Hd (bk.out.trans an (fun a1 hi h=>by omega));clear an;cases hf:Fz ts with
  | error f=>
   have HE:=Hd (a3.out _ hf);have a7:=au.out;rw[hf]at a7 l;have a7:((f.1:Nat):Int)≠0:=by have:f.1≠0:=a7;omega
   have l:e=_:=l;subst l;simp only[bodyPostD];refine leaves_cons (f:=66) (args:=#[.pointer (some ⟨i,0,none⟩),.pointer (some ⟨j,0,none⟩)]) (by simp) (by simp[go_sem]) ?_;refine(Qi (show Ah t i 32 #[.slice none 0 0,.slice none 0 0,.slice none 0 0,.int .i64 0] from ai.out) af.out a7).mono ?_;rintro e u' w7 ⟨rfl,rfl,b,y1,y2,y3,y4⟩;simp only[settle,List.dropWhile_nil,Leaves];have J:=y2.cell 0;have P:=y2.cell 1;have R:=y2.cell 2;have T:=y2.cell 3;have o:=y3.cell 0;simp[ZG]at J P R T o;refine⟨.tuple #[.agg #[.slice none 0 0,.slice none 0 0,.slice none 0 0,.int .i64 0],.iface 202 (.pointer (some ⟨b,0,none⟩))],by simp[results,Tryz.results29,go_sem,J,P,R,T,o],?_⟩
   rw[HE.out];exact⟨(aq.out.trans y4 (fun a1 hi h=>by omega)).below (AG _) (fun _ _=>id),_,rfl,b,rfl,y1⟩
  | ok x=>
   have b5:=Hd (a3.out _ hf);have hq:=au.out;rw[hf]at hq l;obtain⟨rfl,l',dv,kv,sv,rv,rs,D,b2,bf⟩:=l;obtain⟨bi,be⟩:=hq;have bm:=Hd bf;have ak:=Hd bi;have bl:=Hd b2;have bn:Hid (∀r∈rs,r.left.s.length<=8192/\∀q∈r.ss,(∀a2∈q.s.l,a2.s.length<=8192)/\q.s.l.length<=100000):=Hd (fun r hr=>by obtain⟨h1,h2⟩:=be r.r (by rw[<-b2];exact List.mem_map_of_mem hr);refine⟨h1.1,fun q hq=>?_⟩;have h3:=h2 q.s (List.mem_map_of_mem hq);exact⟨fun a2 C=>(h3.1 a2 C).1,h3.2⟩)
   clear hf bi b2 bf be au b7 b8 b4;go_wp2_with fail
   have bb:BO t (((t.alloc (.map #[] 0)).alloc (.map #[] 0)).alloc (.cells #[.pointer (some ⟨mb+1,0,none⟩),.map (some t.heap.size),.map (some (t.heap.size+1)),.slice none 0 0,.slice none 0 0,.slice none 0 0,.int .i64 0,.slice none 0 0] 144)) (t.heap.size+1+1) t.heap.size (t.heap.size+1) (mb+1) (.slice none 0 0) (.slice none 0 0) (.slice none 0 0) ⟨[],[],[]⟩ [] (.map []) (.map []):=by
    refine⟨((((Aj.refl (fun _=>False) t).alloc _).alloc _).alloc _).below (AG _) (fun _ _=>id),MT (by simp),World.ownsRow_nil _ _ _ _,World.ownsRow_nil _ _ _ _,World.ownsRow_nil _ _ _ _,rfl,(by simp),(fun k hk=>by cases hk),(by simp),(by simp),World.ownsMap.alloc (World.ownsMap.alloc (World.ownsMap_made t Tryz.prog 9 (plainElem Tryz.prog 3)) _) _,?_,Hj.start,Hj.start,⟨by omega,AG _,by omega⟩,by omega,by simp,by simp,by simp⟩;have h:=World.ownsMap_made (H:=Unit) (t.alloc (.map #[] 0)) Tryz.prog 9 (plainElem Tryz.prog 3);rw[World.size_alloc]at h;exact h.alloc _
   have bj:=Hd (Xp bb bm.out bl.out ak.out.same (fun a2 C=>(ak.out.decl a2 C).1) (fun a2 C=>(ak.out.starts a2 C).1) (Xm ak.out) bn.out);clear bb;refine bj.out.mono ?_;intro e w6 l;obtain⟨a9,l⟩:=l;have U:=Hd (ai.out.below a9 ai.out.lt);have ag:=Hd (af.out.below a9 af.out.lt);have b3:Hid (Aj (fun _=>False) w w6):=Hd (aq.out.next (.AH a9));have cb:=a9.size;have bv:=aq.out.size;have c0:=U.out.lt;have bx:=ag.out.lt;have c6:i<t.heap.size/\j<t.heap.size:=⟨ai.out.lt,af.out.lt⟩
   clear a9;cases a6:Gh x with
   | error f=>
    have HE:Hid (E9 s.data.toList=.error f):=Hd (by rw[b5.out,<-a6]);have a7:((f.1:Nat):Int)≠0:=by have:f.1≠0:=Xc a6;omega
    rw[a6]at l;obtain⟨cd,bt,rfl⟩:=l;simp only[bodyPostD];refine leaves_cons (f:=66) (args:=#[.pointer (some ⟨i,0,none⟩),.pointer (some ⟨j,0,none⟩)]) (by simp) (by simp[go_sem]) ?_;refine(Qi (show Ah w6 i 32 #[.slice none 0 0,.slice none 0 0,.slice none 0 0,.int .i64 0] from U.out) ag.out a7).mono ?_;rintro e u' w7 ⟨rfl,rfl,b,y1,y2,y3,y4⟩;simp only[settle,Yu bt,Leaves];have J:=y2.cell 0;have P:=y2.cell 1;have R:=y2.cell 2;have T:=y2.cell 3;have o:=y3.cell 0;simp[ZG]at J P R T o;refine⟨.tuple #[.agg #[.slice none 0 0,.slice none 0 0,.slice none 0 0,.int .i64 0],.iface 202 (.pointer (some ⟨b,0,none⟩))],by simp[results,Tryz.results29,go_sem,J,P,R,T,o],?_⟩
    rw[HE.out];exact⟨(b3.out.trans y4 (fun a1 hi h=>by omega)).below (AG _) (fun _ _=>id),_,rfl,b,rfl,y1⟩
   | ok g=>
    have HE:Hid (E9 s.data.toList=.ok g):=Hd (by rw[b5.out,<-a6]);rw[a6]at l;obtain⟨tv,nv,Rv,aw,rfl,aa⟩:=l;have HH:=Hd aa;obtain⟨A1,c1,rfl⟩:=Bw aa.ft;obtain⟨A2,c2,rfl⟩:=Bw aa.fn;obtain⟨A3,c3,rfl⟩:=Bw aa.fR;have J:=U.out.cell 0;have P:=U.out.cell 1;have R:=U.out.cell 2;have T:=U.out.cell 3;have f0:=U.out.frozen 0;have f1:=U.out.frozen 1;have f2:=U.out.frozen 2;have f3:=U.out.frozen 3;have o:=ag.out.cell 0;have df:=ag.out.frozen 0;simp[ZG]at J P R T o;clear a6 aa;go_wp2;have bd:Aj (fun a1=>a1=i\/a1=j) w6 (((((w6.setCell ⟨i,0,none⟩ (.slice A1 g.T.length c1)).setCell ⟨i,1,none⟩ (.slice A2 g.N.length c2)).setCell ⟨i,2,none⟩ (.slice A3 aw.length c3)).setCell ⟨i,3,none⟩ (.int .i64 g.s)).setCell ⟨j,0,none⟩ .nilIface):=
     (((((Aj.refl (fun a1=>a1=i\/a1=j) w6).set (p:=⟨i,0,none⟩) (.inr (.inl rfl)) _).set (p:=⟨i,1,none⟩) (.inr (.inl rfl)) _).set (p:=⟨i,2,none⟩) (.inr (.inl rfl)) _).set (p:=⟨i,3,none⟩) (.inr (.inl rfl)) _).set (p:=⟨j,0,none⟩) (.inr (.inr rfl)) _
    simp only[bodyPostD];refine leaves_cons (f:=66) (args:=#[.pointer (some ⟨i,0,none⟩),.pointer (some ⟨j,0,none⟩)]) (by simp) (by simp[go_sem]) ?_;refine Yg.mono ?_;rintro e u' w7 ⟨rfl,rfl,rfl⟩;simp only[settle,Leaves];refine⟨.tuple #[.agg #[.slice A1 g.T.length c1,.slice A2 g.N.length c2,.slice A3 aw.length c3,.int .i64 g.s],.nilIface],by simp[results,Tryz.results29,go_sem,J,P,R,T,o],?_⟩;rw[HE.out];exact⟨(b3.out.trans bd (fun a1 hi h=>by omega)).below (AG _) (fun _ _=>id),_,_,_,aw,rfl,(HH.out.Aw bd (fun k hk h=>by omega)).mono bv⟩
end
section
open Go.RowKit Go.Maps
theorem Nd{o:Type}{E:o->Value}{w:World}{B:Nat}{e:TypeId}{v:Value}{l:List o}(h:w.ownsRow B e 1 v l.length (l.map E))(j:l.length<=4611686018427387904):Bj E w v l:=by
 rcases Bv h with⟨rfl,h0⟩|⟨b,c,rfl,I,p,t,J,_⟩
 ·exact⟨⟨none,0,by rw[h0],fun k x i=>by have:=(sG.1 i).1;omega⟩,j,fun A n c e=>by cases e;exact⟨AG _,fun _=>rfl⟩⟩
 ·refine⟨⟨_,c,rfl,fun k x i=>⟨b,0,rfl,p,?_⟩⟩,j,fun A n C e=>by cases e;exact⟨t,fun e=>by cases e⟩⟩
  have P:=(sG.1 i).1;rw[Nat.zero_add,Bf h k (by omega),pG,i];rfl
def Bt.ru(q:Bt):Ru:=⟨(q.left:Nat),q.v,q.r.map fun n:Nat=>(n:Int)⟩
theorem WC{w:World}{B:Nat}{v:Value}{R:List Bt}(h:w.ownsRow B 65 2 v R.length (R.flatMap Bt.cells))(hr:∀q∈R,w.ownsRow B 3 1 q.v q.r.length (q.r.map Mark))(J:R.length<=4611686018427387904)(h8:∀q∈R,q.r.length<=8):ET w v (R.map Bt.ru):=by
 have a1:∀q∈R,Bj BF w (Bt.ru q).v (Bt.ru q).right:=fun q i=>by
  have C:=hr q i;have e:(Bt.ru q).right.length=q.r.length:=by unfold Bt.ru;simp
  refine Nd (B:=B) (e:=3) ?_ (by rw[e];have:=h8 q i;omega);rw[e];have P:(Bt.ru q).right.map BF=q.r.map Mark:=by unfold Bt.ru;rw[List.map_map];rfl
  rw[P];exact C
 rcases Bv h with⟨rfl,h0⟩|⟨b,c,rfl,C,T,U,h4,_⟩
 ·refine⟨⟨none,0,by rw[lM,h0],fun k x l=>?_⟩,by rw[lM];exact J,fun A n c e=>by cases e;exact⟨AG _,fun _=>rfl⟩⟩
  have:=(sG.1 l).1;rw[lM]at this;omega
 ·refine⟨⟨_,c,by rw[lM],fun k x l=>⟨b,0,rfl,T,?_⟩⟩,by rw[lM];exact J,fun A n c' e=>by cases e;exact⟨U,fun e=>by cases e⟩⟩
  rw[pG]at l;obtain⟨q,i,rfl⟩:=Option.map_eq_some_iff.1 l;obtain⟨hk,a0⟩:=sG.1 i;have I:∀j,j<2->(R.flatMap Bt.cells)[k*2+j]?=(Bt.cells q)[j]?:=fun j hj=>by rw[CZ Bt.cells 2 Bt.MI R k j hk hj,a0]
  have o:=Bf h (k*2) (by omega);have p:=Bf h (k*2+1) (by omega);have t:=I 0 (by omega);rw[Nat.add_zero]at t;rw[t]at o;rw[I 1 (by omega)]at p;rw[Nat.zero_add];exact⟨o,p,a1 q (mG i)⟩
theorem Qa{s:AO}(h:(Cg s||Cl s)=true):s.length<=1048576:=by
 rw[Bool.or_eq_true]at h;rcases h with h|h
 ·obtain⟨c,r,rfl,_,_,j⟩:=Zy h
  omega
 ·obtain⟨m,rfl,_,_,i⟩:=cW h
  simp;omega
theorem VR{o w:World}{tv nv i:Value}{g:PG}{R:List Bt}(h:Has o w tv nv i g R):JS g (R.map Bt.ru):=by
 refine⟨?_,fun r j=>?_⟩
 ·rw[<-h.r,List.map_map]
  refine List.map_congr_left fun q _=>?_
  unfold Bt.ru Bt.g;refine Prod.ext (by simp) ?_;simp only[Function.comp,List.map_map];exact(List.map_congr_left (fun a _=>by simp[Function.comp])).trans (List.map_id q.r)
 ·obtain⟨q,_,rfl⟩:=List.mem_map.1 j
  refine⟨by unfold Bt.ru;simp,fun s l=>?_⟩;obtain⟨n,_,rfl⟩:=List.mem_map.1 l;omega
theorem aD{o w:World}{tv nv i:Value}{g:PG}{R:List Bt}(h:Has o w tv nv i g R)(j:g.Good):∀q∈R,q.r.length<=8:=fun q l=>by have:=j.g4 q.g (by rw[<-h.r];exact List.mem_map_of_mem l);exact this
theorem Has.Jq{j w:World}{tv nv l:Value}{g:PG}{R:List Bt}(h:Has j w tv nv l g R)(i:g.Good):Ci w (.agg #[tv,nv,l,.int .i64 g.s]) (Gm.Ee g (R.map Bt.ru)):=by
 have U:=i.g1;have g2:=i.g2;have g3:=i.g3;have C:=aD h i;have a0:R.length=g.R.length:=by rw[<-h.r,lM]
 have J:(g.T.map str).map Bs=g.T.map Nv:=by rw[List.map_map];rfl
 have I:(g.N.map str).map Bs=g.N.map Nv:=by rw[List.map_map];rfl
 refine⟨⟨tv,nv,l,rfl,Nd (B:=j.heap.size) (e:=9) ?_ (by show (g.T.map str).length<=_;rw[lM];omega),Nd (B:=j.heap.size) (e:=9) ?_ (by show (g.N.map str).length<=_;rw[lM];omega),WC h.fR h.Iu (by omega) C⟩,?_,?_,?_,?_,?_,?_⟩
 ·show w.ownsRow j.heap.size 9 1 tv (g.T.map str).length ((g.T.map str).map Bs)
  rw[lM,J];exact h.ft
 ·show w.ownsRow j.heap.size 9 1 nv (g.N.map str).length ((g.N.map str).map Bs)
  rw[lM,I];exact h.fn
 ·intro s o
  obtain⟨t,p,rfl⟩:=List.mem_map.1 o;rw[Km];exact Qa (i.g5 t p)
 ·intro s o
  obtain⟨t,p,rfl⟩:=List.mem_map.1 o;rw[Km];exact Qa (by rw[i.g6 t p];rfl)
 ·show (g.T.map str).length<=_
  rw[lM];omega
 ·show (g.N.map str).length<=_
  rw[lM];omega
 ·show (R.map Bt.ru).length<=_
  rw[lM];omega
 ·intro r T
  obtain⟨q,P,rfl⟩:=List.mem_map.1 T;have:=C q P;show (q.r.map fun n:Nat=>(n:Int)).length<=_;rw[lM];omega
theorem St{g:PG}{l m:List Ru}(i:JS g l)(o:JS g m):m.length=l.length/\∀(k:Nat) (a b:Ru),l[k]?=some a->m[k]?=some b->CI a b=true:=by
 have e:∀{l:List Ru},JS g l->l.length=g.R.length:=fun h=>by rw[<-h.1,lM]
 refine⟨by rw[e i,e o],fun k a b ha p=>?_⟩;have I:g.R[k]?=some (a.left.toNat,a.right.map Int.toNat):=by rw[<-i.1,pG,ha];rfl
 have j:g.R[k]?=some (b.left.toNat,b.right.map Int.toNat):=by rw[<-o.1,pG,p];rfl
 rw[I]at j;injection j with j;obtain⟨R,C⟩:=Prod.mk.inj j;have J:=i.2 a (mG ha);have P:=o.2 b (mG p);have t:∀l:List Int,(∀s∈l,0<=s)->(l.map Int.toNat).map (fun n:Nat=>(n:Int))=l:=by intro l i;rw[List.map_map];refine(List.map_congr_left (fun a ha=>?_)).trans (List.map_id l);have:=i a ha;show ((a.toNat:Nat):Int)=a;omega
 unfold CI;rw[Bool.and_eq_true,beq_iff_eq,beq_iff_eq];exact⟨by omega,by rw[<-t _ J.2,C,t _ P.2]⟩
end
def eV(w:World)(e:Ending)(w':World):Prop:=Below w.heap.size w w'/\∃l j i R g,E9 G9=.ok g/\MQ g=true/\e=.returned (.agg #[l,j,i,.int .i64 g.s])/\Has w w' l j i g R
theorem Yp{s:ByteArray}(h:s.data.toList=G9):s.size<=4611686018427387904:=by
 have:s.size=G9.length:=by rw[<-h];exact(Array.length_toList (xs:=s.data)).symm
 rw[this];have:G9.length=2375:=by decide +kernel
 omega
theorem Uh{w:World}{b:Nat}{t:TypeId}{i j l o y0 y1 y2 y3:Value}(h:Ah w b t #[i,j,l,o]):Ah ((((w.setCell ⟨b,0,none⟩ y0).setCell ⟨b,1,none⟩ y1).setCell ⟨b,2,none⟩ y2).setCell ⟨b,3,none⟩ y3) b t #[y0,y1,y2,y3]:=by simpa using(((h.Bn 0 y0).Bn 1 y1).Bn 2 y2).Bn 3 y3
set_option maxRecDepth 1000000 in
theorem Qs{w:World}(hm:Gk w):Calls Tryz.prog 7 #[] w (eV w):=by
 obtain⟨g,U,hb⟩:=Xh;have a0:Below w.heap.size w (w.alloc (.cells ZG 32)):=Ay w _;have HP:Hid (∀s:ByteArray,s.data.toList=G9->Calls Tryz.prog 29 #[.string s] (w.alloc (.cells ZG 32)) (Ss (w.alloc (.cells ZG 32)) (.ok g))):=Hd (fun s hs=>by have h:=iA s (Yp hs) (w.alloc (.cells ZG 32)) (hm.later a0);rw[hs,U]at h;exact h)
 have HG:=Hd (And.intro U hb);clear U hb hm a0;unfold ZG at HP;go_enter Tryz.func7,Tryz.ntmps7
 go_wp2_with (go_at_call 29;refine(HP.out _ ?_).mono ?_)
 ·kernel_rfl
 rintro e J ⟨P,tv,nv,Rv,R,rfl,I⟩;have a2:=P.size;simp at a2;have a1:w.heap.size<J.heap.size:=by omega
 have C:Ah J w.heap.size 32 #[.slice none 0 0,.slice none 0 0,.slice none 0 0,.int .i64 0]:=(Ah.new w 32 _).below P (by simp);have c0:=C.cell 0;have c1:=C.cell 1;have c2:=C.cell 2;have c3:=C.cell 3;have f0:=C.frozen 0;have f1:=C.frozen 1;have f2:=C.frozen 2;have f3:=C.frozen 3;simp at c0 c1 c2 c3;have HK:=Hd C;have HH:=Hd I;have HB:=Hd P;obtain⟨i,o,rfl⟩:=Bw I.ft;obtain⟨j,p,rfl⟩:=Bw I.fn;obtain⟨l,t,rfl⟩:=Bw I.fR;clear P I C;go_wp2;have T:=Hd ((Uh (y0:=.slice i g.T.length o) (y1:=.slice j g.N.length p) (y2:=.slice l R.length t) (y3:=.int .i64 g.s) HK.out).alloc (.cells #[.slice i g.T.length o,.slice j g.N.length p,.slice l R.length t,.int .i64 g.s] 32))
 have z0:=T.out.cell 0;have z1:=T.out.cell 1;have z2:=T.out.cell 2;have z3:=T.out.cell 3;simp only[show (#[Value.slice i g.T.length o,.slice j g.N.length p,.slice l R.length t,.int .i64 g.s]:Array Value)[0]?=some (.slice i g.T.length o) from rfl,show (#[Value.slice i g.T.length o,.slice j g.N.length p,.slice l R.length t,.int .i64 g.s]:Array Value)[1]?=some (.slice j g.N.length p) from rfl,show (#[Value.slice i g.T.length o,.slice j g.N.length p,.slice l R.length t,.int .i64 g.s]:Array Value)[2]?=some (.slice l R.length t) from rfl,show (#[Value.slice i g.T.length o,.slice j g.N.length p,.slice l R.length t,.int .i64 g.s]:Array Value)[3]?=some (.int .i64 g.s) from rfl]at z0 z1 z2 z3
 refine bodyPost_ret (v:=.agg #[.slice i g.T.length o,.slice j g.N.length p,.slice l R.length t,.int .i64 g.s]) (by simp[results,Tryz.results7,go_sem,z0,z1,z2,z3]) rfl ?_;have hX:Aj (fun k=>k=w.heap.size) J ((((((J.setCell ⟨w.heap.size,0,none⟩ (.slice i g.T.length o)).setCell ⟨w.heap.size,1,none⟩ (.slice j g.N.length p)).setCell ⟨w.heap.size,2,none⟩ (.slice l R.length t)).setCell ⟨w.heap.size,3,none⟩ (.int .i64 g.s)).alloc (.cells #[.slice i g.T.length o,.slice j g.N.length p,.slice l R.length t,.int .i64 g.s] 32))):=
  (((((Aj.refl (fun k=>k=w.heap.size) J).set (p:=⟨w.heap.size,0,none⟩) (.inr rfl) _).set (p:=⟨w.heap.size,1,none⟩) (.inr rfl) _).set (p:=⟨w.heap.size,2,none⟩) (.inr rfl) _).set (p:=⟨w.heap.size,3,none⟩) (.inr rfl) _).alloc _
 refine⟨((Ay w _).trans (HB.out.mono (by simp))).trans (hX.below (Nat.le_of_lt a1) (fun k hk e=>by omega)),_,_,_,R,g,HG.out.1,HG.out.2,rfl,(HH.out.Aw hX (fun k hk e=>by simp at hk;omega)).mono (by simp)⟩
theorem Rw{g:PG}{l:List Ru}{s:Int}{x:AO}(j:1<=s)(h:(g.T++g.N)[(s-1).toNat]?=some x):(Gm.Ee g l).name s=str x:=by
 have i:=(sG.1 h).1;rw[B5]at i;have e:((Gm.Ee g l).T++(Gm.Ee g l).N)=(g.T++g.N).map str:=by show g.T.map str++g.N.map str=_;rw[By]
 unfold Gm.name;rw[if_neg (by omega),if_neg (by show ¬(s<1\/((g.T.map str).length:Int)+((g.N.map str).length:Int)<s);simp only[lM];omega),e,dG,pG,h];rfl
theorem Zf(w:World):Below w.heap.size w w.drew:=⟨rfl,rfl,rfl,AG _,fun _ _=>rfl⟩
theorem Uw:JE ⟨#[105,110]⟩=38:=by unfold JE;simp only[Lib.toList_data];decide +kernel
theorem XV{w:World}(hm:Gk w)(ht:Hn w):Calls Tryz.prog 9 #[] w (fun e w'=>e=.returned (.bool true)/\Below w.heap.size w w'):=by
 have HP:=Hd (Qs hm);have HT:=Hd (fun y (hy:Below w.heap.size w y)=>ht.later hy);clear hm ht;go_enter Tryz.func9,Tryz.ntmps9
 go_wp2_with fail
 refine HP.out.mono ?_;rintro e w1 ⟨a4,tv,nv,Rv,R,g,hg,hB,rfl,o⟩;have J:=Has.Jq o (NX hg);unfold MQ at hB;simp only[Bool.and_eq_true,decide_eq_true_eq,beq_iff_eq]at hB;obtain⟨⟨⟨⟨ah,a8⟩,a9⟩,ai⟩,aj⟩:=hB;clear ah;obtain⟨S,hS⟩:∃S:Int,S=(g.s:Int):=⟨_,rfl⟩
 have t:(Gm.Ee g (R.map Bt.ru)).name 18=str [39,60,60,45,39]:=Rw (by decide) a8;have C:(Gm.Ee g (R.map Bt.ru)).name S=str [117,110,105,116]:=Rw (by omega) (by rw[show (S-1).toNat=g.s-1 by omega];exact a9);have ag:Hid (-9223372036854775808<=S):=Hd (by omega);obtain⟨A1,c1,rfl⟩:=Bw o.ft;obtain⟨A2,c2,rfl⟩:=Bw o.fn;obtain⟨A3,c3,rfl⟩:=Bw o.fR;rw[<-hS]at J ⊢;generalize g.T.length=nT at *;generalize g.N.length=nN at *;generalize R.length=nR at *;generalize Gm.Ee g (R.map Bt.ru)=gm at J t C;obtain⟨P,a1⟩:∃P,P=str [39,60,60,45,39]:=⟨_,rfl⟩
 obtain⟨T,a2⟩:∃T,T=str [117,110,105,116]:=⟨_,rfl⟩
 obtain⟨U,a3⟩:∃U,U=OM 23:=⟨_,rfl⟩
 rw[<-a1]at t;rw[<-a2]at C;have q1:(P.toList==[39,60,60,45,39])=true:=by rw[a1,Lib.toList_data];decide +kernel
 have q2:(T.toList==[117,110,105,116])=true:=by rw[a2,Lib.toList_data];decide +kernel
 have q3:(U.toList==[105,102])=true:=by rw[a3,Lib.toList_data];decide +kernel
 have af:=Hd J;have ab:=Hd t;have ad:=Hd C;have ae:=Hd a3;clear o hg a8 a9 ai aj hS t C J a1 a2 a3;have a5:=Hd (Ay w1 (.cells #[.slice A1 nT c1,.slice A2 nN c2,.slice A3 nR c3,.int .i64 S] 32));have p:=Hd (a4.trans (a5.out.mono a4.size));have l:=Hd (Ah.new w1 32 #[.slice A1 nT c1,.slice A2 nN c2,.slice A3 nR c3,.int .i64 S]);have a6:=Hd (af.out.later a5.out);clear a4;go_wp2_with fail
 generalize (w1.alloc (.cells #[.slice A1 nT c1,.slice A2 nN c2,.slice A3 nR c3,.int .i64 S] 32))=W at *;obtain⟨I,a7,a0⟩:∃I:World->Prop,(∀w',I w'->Below W.heap.size W w')/\(∀w',Below W.heap.size W w'->I w'):=⟨_,fun _ h=>h,fun _ h=>h⟩
 have hI:I W.drew:=a0 _ (Zf W);have al:Nonempty (Wd I):=⟨⟨_,hI⟩⟩
 have j:=Hd (fun x:Wd I=>a7 _ x.ok);have XJ:=Hd a0;clear a7 a0;have g0:=fun y:Wd I=>(l.out.below (j.out y) l.out.lt).cell 0
 have g1:=fun y:Wd I=>(l.out.below (j.out y) l.out.lt).cell 1
 have g2:=fun y:Wd I=>(l.out.below (j.out y) l.out.lt).cell 2
 have g3:=fun y:Wd I=>(l.out.below (j.out y) l.out.lt).cell 3
 simp at g0 g1 g2 g3;have TY:=Hd (fun y:Wd I=>HT.out y.w (p.out.trans ((j.out y).mono p.out.size)));have CO:=Hd (fun y:Wd I=>Fh (I:=I) (v:=.int .i64 18) ((Wc 13 (TY.out y)).mono fun e w' i=>⟨i.1,i.2▸y.ok⟩));have CR:=Hd (fun y:Wd I=>Fh (I:=I) (v:=.int .i64 38) ((bV ⟨#[105,110]⟩ (TY.out y)).mono fun e w' i=>⟨by rw[<-Uw];exact i.1,i.2▸y.ok⟩));have CS:=Hd (fun y:Wd I=>Fh (I:=I) (v:=.string U) ((XX 23 (by decide) (TY.out y)).mono fun e w' i=>⟨by rw[ae.out];exact i.1,i.2▸y.ok⟩));have CN:=Hd (fun y:Wd I=>Fh (I:=I) (v:=.string P) ((TP (a6.out.later (j.out y)) 18 (by decide)).mono fun e w' i=>⟨by rw[<-ab.out];exact i.1,XJ.out _ ((j.out y).trans (i.2.mono (j.out y).size))⟩))
 have CM:=Hd (fun y:Wd I=>Fh (I:=I) (v:=.string T) ((TP (a6.out.later (j.out y)) S ag.out).mono fun e w' i=>⟨by rw[<-ad.out];exact i.1,XJ.out _ ((j.out y).trans (i.2.mono (j.out y).size))⟩));refine Iy I (by kernel_rfl) (by kernel_rfl) hI ?_;repeat (go_big_quiet_step (first|(go_at_call 32;exact CO.out _)|(go_at_call 33;exact CR.out _)|(go_at_call 34;exact CS.out _)|(go_at_call 31;first|(with_reducible exact CN.out _)|(with_reducible exact CM.out _))))
 refine wpQuiet_nil ?_;intro _ ak;obtain⟨x,rfl⟩:=ak;have aa:=Hd (p.out.trans ((j.out x).mono p.out.size));clear g0 g1 g2 g3;go_wp2;go_ret;exact⟨rfl,aa.out⟩
end Go.Proofs.YthaacmablcpdfaaGreatDoor
