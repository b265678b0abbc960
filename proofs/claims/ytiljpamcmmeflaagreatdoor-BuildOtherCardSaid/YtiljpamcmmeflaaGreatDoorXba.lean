/- . -/
import Derived.Test.YtiljpamcmmeflaaGreatDoorXaz
import Derived.Defers
import Derived.Recover
import Derived.Test.YtiljpamcmmeflaaGreatDoorXao
set_option linter.all false
set_option maxRecDepth 100000
set_option maxHeartbeats 16000000
namespace Go.Proofs.YtiljpamcmmeflaaGreatDoor
open Go.RowKit Go.Proofs.Tryz
open Value renaming slice→nC,int→nE,pointer→nF,string→nH,bool→nI
open Option renaming some→nJ,none→nK
open IntKind renaming i64→nM
open Obj renaming cells→nO
open Ending renaming returned→nP
open World renaming cell?→nQ
open Go renaming World→nS,Value→nU
variable{l:List Tk}{u:FrameMode}{o:Obj}{B c c2 k mb n s:Nat}{X:Nat->Prop}{w' w2:nS}{e t:TypeId}{cs tmps:Array nU}{C D:DataW Unit}{A2:Option Addr}{x:Bl}{xs:List nU}{tb:Option Nat}{dv kv rv:nU}{rs:List Br}{i:List PanicEntry}{P:Program}
section
open Go.RowKit Go.Proofs.Tryz Go.Maps
def aT{w:nS}{j l:Nat}{p:Addr}{u v:nU}{a b:List AM}(ha:w.ownsRow j 9 1 u a.length (a.map Nv))(i:w.ownsRow l 9 1 v b.length (b.map Nv))(I:w.cell? p=nJ u):() 170 #[v,nF (nJ p)] w fun e w'=>e=nP (nI (a==b))/\∃q,w'=w.drewN q:=by
 have o:=Hd (dI ha i);clear ha i;go_enter func170,ntmps170
 go_wp2_with (go_at_call 171;refine o.mono ?_;intro e w' C;obtain⟨rfl,t⟩:=C)
 go_ret;exact⟨rfl,t⟩
def fA{o:Type}{p:o->Bool}{l:List o}{x:o}(I:l[k]?=nJ x)(C:p x=false)(t:∀j y,j<k->l[j]?=nJ y->p y=false):∀j y,j<k+1->l[j]?=nJ y->p y=false:=by
 intro j y J i;by_cases e:j=k
 ·subst e
  rw[I]at i;cases i
  exact C
 ·exact t j y mR i
def Zy{w:nS}{v:nU}{l:List BJ}(H:w.ownsRow B 55 1 v l.length (l.map BJ.v))(p:List AM->Bool)(g:Nat)(lb:Array nU)(eg:∀args y,(callFunc g args).run Tryz.prog y=.ok (.enter g args) y)
  (hp:∀x∈l,∀y,Below w w y->() g (#[x.v]++lb) y (fun e w'=>e=nP (nI (p x.l))/\Below y y w')) :
  () 204 #[v,.func (.func g) #[] lb] w fun e w'=>(∃i:Int,e=nP (nE nM i)/\((∃x∈l,p x.l=true)/\0<=i\/(∀x∈l,p x.l=false)/\i = -1))/\Below w w w':=by
 obtain⟨A,c,rfl⟩:=BH H;have a2:l.length<=9223372036854775807:=by
  rcases Bg H with⟨_,h0⟩|⟨_,c3,_,_,_,h1,h2,_⟩
  ·omega
  ·unfold maxLen at h2;omega
 have HC:=Hd (fun(h:0<l.length)=>KK H h);have HP:=Hd hp;clear H hp;go_enter func204,ntmps204
 go_wp2;go_loopw [5,8] (fun _ i wr=>∃k:Nat,k<=l.length/\i=nE nM k/\Hid (∀j y,j<k->l[j]?=nJ y->p y.l=false)/\Hid (Below w w wr)) (fun _ i _=>l.length-(intOf i).toNat)
 case atStart=>exact⟨0,A0 _,rfl,Hd (fun j y P=>absurd P (Nat.not_lt_zero _)),Hd (Below.refl _ w)⟩
 case round=>
  obtain⟨k,hk,rfl,HA,o⟩:=hrel;by_cases a1:k<l.length
  ·have t:=eG a1
   generalize l[k]=x at t;have U:=mG t;obtain⟨b,c2,e1,a0⟩:=HC mR;cases e1
   have T:=a0 k x.v (by rw[pG,t];rfl);have a3:=(o.cell (p:=⟨b,k,nK⟩) (World.block_lt_of_cell? w _ T)).trans T;have J:=Hd (HP x U wr o);have HX:=Hd t;have HM:=Hd U;clear t a0 U T HC;cases C:p x.l with
   | true=>
    rw[C]at J;have HQ:=Hd C;clear C;go_wp2_with (go_at_fn g;refine J.mono ?_;rintro e w' ⟨rfl,I⟩;have R:=Hd (o.trans (I.mono o.size));clear I)
    go_ret;exact⟨⟨_,rfl,.inl ⟨⟨x,HM,HQ⟩,mR⟩⟩,R⟩
   | false=>
    rw[C]at J;have HN:=Hd (fA (p:=fun y:BJ=>p y.l) HX C HA);clear C;go_wp2_with (go_at_fn g;refine J.mono ?_;rintro e w' ⟨rfl,I⟩;have R:=Hd (o.trans (I.mono o.size));clear I)
    go_roundw
    case rel=>exact⟨k+1,mR,mY,HN,R⟩
    case measure=>simp[intOf];omega
  ·obtain rfl:k=l.length:=by omega
   have HI:Hid (∀x∈l,p x.l=false):=Hd (fun x t=>by obtain⟨j,P⟩:=List.mem_iff_getElem?.1 t;exact HA j x (sG.1 P).1 P)
   go_wp2;go_ret;exact⟨⟨_,rfl,.inr ⟨HI,rfl⟩⟩,o⟩
def kX{w:nS}{v:nU}{l:List BJ}(H:w.ownsRow B 55 1 v l.length (l.map BJ.v))(p:List AM->Bool)(g:Nat)(lb:Array nU)(t:∀args y,(callFunc g args).run Tryz.prog y=.ok (.enter g args) y)
  (J:∀x∈l,∀y,Below w w y->() g (#[x.v]++lb) y (fun e w'=>e=nP (nI (p x.l))/\Below y y w')) :
  () 169 #[v,.func (.func g) #[] lb] w fun e w'=>e=nP (nI ((l.map BJ.l).any p))/\Below w w w':=by
 have R:=Hd (Zy H p g lb t J);obtain⟨A,c,rfl⟩:=BH H;clear H J t;generalize l.length=n at *;have a0:Hid ((∃x∈l,p x.l=true)->(l.map BJ.l).any p=true):=Hd (fun⟨x,i,j⟩=>by rw[List.any_eq_true];exact⟨x.l,List.mem_map_of_mem i,j⟩);have U:Hid ((∀x∈l,p x.l=false)->(l.map BJ.l).any p=false):=Hd (fun h=>by rw[List.any_eq_false];intro y hy;obtain⟨x,o,rfl⟩:=List.mem_map.1 hy;rw[h x o];simp);go_enter func169,ntmps169
 go_wp2_with (go_at_call 204;refine R.mono ?_;intro e w' o;obtain⟨⟨a1,rfl,I⟩,C⟩:=o;have T:=Hd I;have P:=Hd C;clear I C)
 go_ret;refine⟨C9 ?_,P⟩;rcases T.out with⟨i,j⟩|⟨i,rfl⟩
 ·rw[a0.out i];simpa using j
 ·rw[U.out i];rfl
end
section
open Go.RowKit Go.Proofs.Tryz Go.Maps
def BQ.past{w0 w:nS}{bb tm nm rb:Nat}{tv nv gv:nU}{b:Bd}{gs:List BJ}{DT DN:DataW Unit}(h:BQ w0 w bb tm nm rb tv nv gv b gs DT DN)(i:Aj X w w')(h0:∀k,k<w0.heap.size->¬X k)
  (l:¬X bb) (t:¬X tm) (C:¬X nm) (J:∀g,tv.ownBlock=nJ g->¬X g) (P:∀g,nv.ownBlock=nJ g->¬X g) (o:∀g,gv.ownBlock=nJ g->¬X g) (I:∀q∈gs,∀g,q.v.ownBlock=nJ g->¬X g):BQ w0 w' bb tm nm rb tv nv gv b gs DT DN where
 below:=h.below.trans (i.below h.below.size h0)
 Ap:=i.Ap h.Ap l
 ft:=i.own h.ft J
 fn:=i.own h.fn P
 fg:=i.own h.fg o
 names:=h.names
 rows q j:=i.own (h.rows q j) (I q j)
 tn:=h.tn
 tr:=h.tr
 nr:=h.nr
 mt:=Dq h.mt i t
 mn:=Dq h.mn i C
 pt:=h.pt
 pn:=h.pn
 b0:=h.b0
 b1:=h.b1
 lt:=h.lt
 ln:=h.ln
 lr:=h.lr
def O3(bb tm nm:Nat)(tv nv gv:nU)(k:Nat):Prop:=Dy bb tm nm tv nv k\/gv.ownBlock=nJ k
def BM.Nb{w:nS}{bb tm nm:Nat}{tv nv l j:nU}(o:BM w tv l)(t:BM w nv j):∀i,i<w.heap.size->Dy bb tm nm l j i->Dy bb tm nm tv nv i:=by
 intro i C h;rcases h with h|h|h|h|h
 ·exact .inl h
 ·exact .inr (.inl h)
 ·exact .inr (.inr (.inl h))
 ·rcases o i h with h|h
  ·exact .inr (.inr (.inr (.inl h)))
  ·omega
 ·rcases t i h with h|h
  ·exact .inr (.inr (.inr (.inr h)))
  ·omega
def BM.next{w i:nS}{u v x:nU}(j:BM w u v)(l:BM i v x)(t:w.heap.size<=i.heap.size):BM w u x:=by
 intro k o;rcases l k o with h|h
 ·exact j k h
 ·exact .inr (AY t h)
structure FZ(w0 w:nS)(bb tm nm rb:Nat)(tv0 nv0 gv:nU)(gs:List BJ)(xb sb:Nat)(sv:nU)(p:Nat)(left:AM)(done:List AM)(b:Bd)(tv nv xv:nU)(DT DN:DataW Unit)(wr:nS):Prop where
 at_:BQ w0 wr bb tm nm rb tv nv gv b gs DT DN
 box:Ah wr xb 55 #[xv]
 JF:Ah wr sb 226 #[sv,p]
 own:wr.ownsRow w 9 1 xv (done.length+1) ((left::done).map Nv)
 xt:∀k,xv.ownBlock=nJ k->¬tv.ownBlock=nJ k
 xn:∀k,xv.ownBlock=nJ k->¬nv.ownBlock=nJ k
 Ay:Aj (Dy bb tm nm tv0 nv0) w wr
 nt:BM w tv0 tv
 nn:BM w nv0 nv
 hx:w.heap.size<=xb
 hs:w.heap.size<=sb
 h0:w0.heap.size<=w.heap.size
 hg:∀k,gv.ownBlock=nJ k->k<w.heap.size
 hq:∀q∈gs,∀k,q.v.ownBlock=nJ k->k<w.heap.size
def KM{w0 w:nS}{bb tm nm rb g:Nat}{tv nv gv:nU}{b:Bd}{gs:List BJ}{DT DN:DataW Unit}(h:BQ w0 w bb tm nm rb tv nv gv b gs DT DN)(i:Ah w g t cs)(o:t≠173)(l:t≠9):¬Dy bb tm nm tv nv g:=by
 rintro(rfl|rfl|rfl|j|j)
 ·exact Ah.Bh i h.Ap o rfl
 ·exact GQ h.mt i rfl
 ·exact GQ h.mn i rfl
 ·exact CB h.ft i (Ne.symm l) j
 ·exact CB h.fn i (Ne.symm l) j
def WG{w0 w:nS}{bb tm nm rb g:Nat}{tv nv gv:nU}{b:Bd}{gs:List BJ}{DT DN:DataW Unit}(h:BQ w0 w bb tm nm rb tv nv gv b gs DT DN)(j:Ah w g t cs)(l:t≠173)(o:t≠9)(C:t≠55):¬O3 bb tm nm tv nv gv g:=by
 rintro(i|i)
 ·exact KM h j l o i
 ·exact CB h.fg j (Ne.symm C) i
namespace FZ
variable {w0 w wr:nS} {bb tm nm rb:Nat} {tv0 nv0 gv:nU} {gs:List BJ} {xb sb:Nat} {sv:nU} {p:Nat} {left:AM} {done:List AM} {b:Bd} {tv nv xv:nU} {DT DN:DataW Unit}
def later(h:FZ w0 w bb tm nm rb tv0 nv0 gv gs xb sb sv p left done b tv nv xv DT DN wr)(j:Below wr wr w'):FZ w0 w bb tm nm rb tv0 nv0 gv gs xb sb sv p left done b tv nv xv DT DN w':=by have i:Aj (fun _=>False) wr w':=.AJ j;exact⟨h.at_.Ay i (fun _ _=>id),i.Ap h.box id,i.Ap h.JF id,i.own h.own (fun _ _=>id),h.xt,h.xn,h.Ay.next (.AJ j),h.nt,h.nn,h.hx,h.hs,h.h0,h.hg,h.hq⟩
def alloc(h:FZ w0 w bb tm nm rb tv0 nv0 gv gs xb sb sv p left done b tv nv xv DT DN wr)(o:Obj):FZ w0 w bb tm nm rb tv0 nv0 gv gs xb sb sv p left done b tv nv xv DT DN (wr.alloc o):=h.later (AE wr o)
def drew(h:FZ w0 w bb tm nm rb tv0 nv0 gv gs xb sb sv p left done b tv nv xv DT DN wr):FZ w0 w bb tm nm rb tv0 nv0 gv gs xb sb sv p left done b tv nv xv DT DN wr.drew:=h.later (ID wr)
def sym(h:FZ w0 w bb tm nm rb tv0 nv0 gv gs xb sb sv p left done b tv nv xv DT DN wr){J:Bd}{t o:nU}{I:DataW Unit}(ha:BQ w0 w2 bb tm nm rb t o gv J gs I C)(l:Aj (Dy bb tm nm tv nv) wr w2)(T:BM wr tv t)(P:BM wr nv o) :
  FZ w0 w bb tm nm rb tv0 nv0 gv gs xb sb sv p left done J t o xv I C w2:=by
 have a0:∀k,xv.ownBlock=nJ k->¬Dy bb tm nm tv nv k:=by
  rintro k i (rfl|rfl|rfl|j|j)
  ·exact CB h.own h.at_.Ap mT i
  ·exact FV h.at_.mt h.own i
  ·exact FV h.at_.mn h.own i
  ·exact h.xt k i j
  ·exact h.xn k i j
 have R:=h.Ay.size;refine⟨ha,l.Ap h.box (KM h.at_ h.box mT mT),l.Ap h.JF (KM h.at_ h.JF mT mT),l.own h.own a0,?_,?_,h.Ay.trans l (fun a1 U=>h.nt.Nb h.nn a1 U),h.nt.next T R,h.nn.next P R,h.hx,h.hs,h.h0,h.hg,h.hq⟩
 ·intro k i j
  rcases T k j with e|e
  ·exact h.xt k i e
  ·have:=(B0 h.own k i).2;omega
 ·intro k i j
  rcases P k j with e|e
  ·exact h.xn k i e
  ·have:=(B0 h.own k i).2;omega
def app(h:FZ w0 w bb tm nm rb tv0 nv0 gv gs xb sb sv p left done b tv nv xv DT DN wr){s:AM}
  (ho:w2.ownsRow w 9 1 (nC A2 (done.length+1+1) c2) (done.length+1+1) ((left::done).map Nv++[Nv s]))
  (T:(wr.alloc o).grownBy w2 xv.ownBlock/\((Value.slice A2 (done.length+1+1) c2).ownBlock=xv.ownBlock\/(Value.slice A2 (done.length+1+1) c2).ownBlock=nJ (wr.alloc o).heap.size)) :
  FZ w0 w bb tm nm rb tv0 nv0 gv gs xb sb sv p left (done++[s]) b tv nv (nC A2 (done.length+1+1) c2) DT DN (w2.setCell (xb,0) (nC A2 (done.length+1+1) c2)):=by
 have R:Aj (fun k=>xv.ownBlock=nJ k) wr w2:=((Aj.refl _ wr).alloc o).next (.Cy T.1);have I:Aj (fun k=>xv.ownBlock=nJ k\/k=xb) wr (w2.setCell (xb,0) (nC A2 (done.length+1+1) c2)):=(R.mono (fun i U=>.inl U)).set (p:=⟨xb,0,nK⟩) (.inr (.inr rfl)) _;have C:∀k,xv.ownBlock=nJ k->w.heap.size<=k/\k<wr.heap.size:=fun k t=>B0 h.own k t
 have a1:=h.box.lt;have a0:=h.h0;have hx:=h.hx;have P:¬xv.ownBlock=nJ xb:=CB h.own h.box mT;have e2:¬(xv.ownBlock=nJ sb\/sb=xb):=by
  rintro(e|rfl)
  ·exact CB h.own h.JF mT e
  ·exact Ah.Bh h.JF h.box mT rfl
 have J:∀k,(Value.slice A2 (done.length+1+1) c2).ownBlock=nJ k->xv.ownBlock=nJ k\/wr.heap.size<=k:=by
  intro k t;rcases T.2 with e|e
  ·exact .inl (e▸t)
  ·rw[e]at t;cases t;exact .inr mV
 refine⟨h.at_.past I ?_ ?_ ?_ ?_ ?_ ?_ ?_ ?_,?_,I.Ap h.JF e2,?_,?_,?_,(h.Ay.trans (I.mono (Y:=fun k=>w.heap.size<=k) ?_) (fun i U j=>by omega)),h.nt,h.nn,h.hx,h.hs,h.h0,h.hg,h.hq⟩
 ·rintro k t (j|j)
  ·have:=(C k j).1;omega
  ·omega
 ·rintro(j|j)
  ·exact CB h.own h.at_.Ap mT j
  ·subst j;exact Ah.Bh h.box h.at_.Ap mT rfl
 ·rintro(j|j)
  ·exact FV h.at_.mt h.own j
  ·exact GQ h.at_.mt h.box j
 ·rintro(j|j)
  ·exact FV h.at_.mn h.own j
  ·exact GQ h.at_.mn h.box j
 ·rintro g l (j|j)
  ·exact h.xt g j l
  ·subst j;exact CB h.at_.ft h.box mT l
 ·rintro g l (j|j)
  ·exact h.xn g j l
  ·subst j;exact CB h.at_.fn h.box mT l
 ·rintro g l (j|j)
  ·have:=h.hg g l;have:=(C g j).1;omega
  ·have:=h.hg g l;omega
 ·rintro q hq g l (j|j)
  ·have:=h.hq q hq g l;have:=(C g j).1;omega
  ·have:=h.hq q hq g l;omega
 ·simpa using(R.Ap h.box P).AW 0 (nC A2 (done.length+1+1) c2)
 ·rw[show (done++[s]).length+1=done.length+1+1 by simp,show (left::(done++[s])).map Nv=(left::done).map Nv++[Nv s] by simp]
  refine Ee ho ?_ _;intro e;rcases J _ e with e|e
  ·exact P e
  ·simp at e;omega
 ·intro k t j
  rcases J k t with e|e
  ·exact h.xt k e j
  ·have:=(B0 h.at_.ft k j).2;omega
 ·intro k t j
  rcases J k t with e|e
  ·exact h.xn k e j
  ·have:=(B0 h.at_.fn k j).2;omega
 ·rintro i (j|j)
  ·exact(C i j).1
  ·omega
end FZ
def V3{w0 w:nS}{bb tm nm rb:Nat}{tv nv gv xv:nU}{b:Bd}{gs:List BJ}{DT DN:DataW Unit}{x:List AM}
  (h:BQ w0 w bb tm nm rb tv nv gv b gs DT DN) (hx:w.ownsRow w0 9 1 xv x.length (x.map Nv)) (a1:∀k,xv.ownBlock=nJ k->¬tv.ownBlock=nJ k) (a0:∀k,xv.ownBlock=nJ k->¬nv.ownBlock=nJ k) (a3:b.R.length<300)
  (ho:w2.ownsRow w0 55 1 (nC A2 (gs.length+1) c2) (gs.length+1) (gs.map BJ.v++[xv]))
  (hg:(w.alloc o).grownBy w2 gv.ownBlock/\((Value.slice A2 (gs.length+1) c2).ownBlock=gv.ownBlock\/(Value.slice A2 (gs.length+1) c2).ownBlock=nJ (w.alloc o).heap.size)) :
  BQ w0 (w2.setCell (bb,7) (nC A2 (gs.length+1) c2)) bb tm nm rb tv nv (nC A2 (gs.length+1) c2) {b with R:=b.R++[x]} (gs++[⟨xv,x⟩]) DT DN/\Aj (fun k=>gv.ownBlock=nJ k\/k=bb) w (w2.setCell (bb,7) (nC A2 (gs.length+1) c2)):=by
 have U:Aj (fun k=>gv.ownBlock=nJ k) w w2:=((Aj.refl _ w).alloc o).next (.Cy hg.1);have C:Aj (fun k=>gv.ownBlock=nJ k\/k=bb) w (w2.setCell (bb,7) (nC A2 (gs.length+1) c2)):=(U.mono (fun a4 hi=>.inl hi)).set (p:=⟨bb,7,nK⟩) (.inr (.inr rfl)) _;have T:¬gv.ownBlock=nJ bb:=CB h.fg h.Ap mT;have I:∀{n:Nat} {v:nU} {R:List nU},w.ownsRow w0 9 1 v n R->(w2.setCell (bb,7) (nC A2 (gs.length+1) c2)).ownsRow w0 9 1 v n R:=by
  intro n v R P;refine C.own P ?_;rintro k l (j|rfl)
  ·exact Gt P h.fg mT k l j
  ·exact CB P h.Ap mT l
 have a2:=h.Ap.lt;refine⟨⟨?_,?_,I h.ft,I h.fn,?_,by rw[Bz,h.names];rfl,?_,h.tn,?_,?_,Dq h.mt C ?_,Dq h.mn C ?_,h.pt,h.pn,h.b0,h.b1,h.lt,h.ln,mX⟩,C⟩
 ·refine h.below.trans (C.below h.below.size ?_)
  rintro k l (j|j)
  ·have:=(B0 h.fg k j).1;omega
  ·have:=h.b0.1;omega
 ·simpa using(U.Ap h.Ap T).AW 7 (nC A2 (gs.length+1) c2)
 ·rw[show (gs++[(⟨xv,x⟩:BJ)]).length=gs.length+1 by simp,Bz]
  refine Ee ho ?_ _;intro e;rcases hg.2 with J|J
  ·exact T (J▸e)
  ·rw[J]at e;injection e with e;simp at e;omega
 ·intro q i
  rcases mA.1 i with i|i
  ·exact I (h.rows q i)
  ·rw[mS.1 i];exact I hx
 ·intro q i k l t
  rcases mA.1 i with i|i
  ·exact h.tr q i k l t
  ·rw[mS.1 i]at t;exact a1 k t l
 ·intro q i k l t
  rcases mA.1 i with i|i
  ·exact h.nr q i k l t
  ·rw[mS.1 i]at t;exact a0 k t l
 ·rintro(j|j)
  ·exact FV h.mt h.fg j
  ·exact GQ h.mt h.Ap j
 ·rintro(j|j)
  ·exact FV h.mn h.fg j
  ·exact GQ h.mn h.Ap j
end
variable{rb:Nat}{DN DT:DataW Unit}{sv:nU}
section
open Go.RowKit Go.Proofs.Tryz Go.Maps
def eH{w:nS}{g:Nat}(h:Ah w g e cs)(j:B<=g)(i:cs.size=n)(l:n<=maxLen):w.ownsRow B e 1 (nC (g,0) n n) n cs.toList:=by refine⟨by simp[i],.inr ⟨g,n,cs,rfl,j,h,AF _,l,by simp[i],?_⟩⟩;rw[Dd (by simp[i])]
def Xj:El Tryz.prog 171 55 1 24:=El.of (z:=nC nK 0 0) underlying171 mU rfl mT
def VJ(i w:nS)(j C p rb:Nat)(tv nv l:nU)(r:Except Bn Bd)(e:Ending)(w':nS):Prop:=
 Below i i w'/\match r with
 | .ok b=>e=nP (.tuple #[])/\∃I t o R P J,BQ i w' j C p rb I t o b R P J/\Aj (O3 j C p tv nv l) w w'/\BM w tv I/\BM w nv t/\BM w l o
 | .error f=>BW f e
def NZ{w:nS}{g:Nat}{t:Tk}(h:w.ownsRow B 216 3 (nC (g,0) l.length c) l.length (l.flatMap Tk.cells))(P:l[k]?=nJ t) :
  nQ w (g,k*3)=nJ (nE nM t.k)/\nQ w (g,k*3+1)=nJ (nH (str t.s))/\nQ w (g,k*3+2)=nJ (nE nM t.p):=by
 obtain⟨J,R⟩:=sG.1 P;have i:∀j,j<3->(l.flatMap Tk.cells)[k*3+j]?=(Tk.cells t)[j]?:=fun j I=>by rw[CR Tk.cells 3 Tk.Np l k j J I,R]
 have o:=Bb h (k*3) mR;have p:=Bb h (k*3+1) mR;have C:=Bb h (k*3+2) mR;rw[o,p,C,i 1 mR,i 2 mR];have:=i 0 mR;rw[Nat.add_zero]at this;rw[this];exact⟨rfl,rfl,rfl⟩
def Jb{w:nS}{v:nU}(h:w.ownsRow B e s v n xs)(i:0<n):∃g c,v=nC (nJ ⟨g,0,nK⟩) n c:=by
 rcases Bg h with⟨rfl,h0⟩|⟨g,c,rfl,_⟩
 ·omega
 ·exact⟨g,c,rfl⟩
def Xz{R w:nS}{bb tm nm:Nat}{tv nv gv:nU}{b:Bd}{j:List BJ}(h:BQ R w bb tm nm rb tv nv gv b j DT DN)(hr:DM R B rb mb tb l x dv kv sv rv rs D)(ai:rs.map Br.r=x.rules)
  (left:AM) (q:GS) (hq:Iw R B q) (aj:∀t∈q.s.l,t.s.length<=8192) (c8:q.s.l.length<=100000) :
  () 125 #[(bb,0),nH (str left),.agg #[q.v,q.s.p]] w (VJ R w bb tm nm rb tv nv gv (DY (leftOf x) b left q.s)):=by
 obtain⟨c0,c1,c2,c3,c4,c7,bo⟩:=h.cells;have ay:j.length=b.R.length:=by rw[<-h.names,lM]
 have a1:R.ownsRow B 216 3 q.v q.s.l.length (q.s.l.flatMap Tk.cells):=hq;obtain⟨As,cs,ab⟩:=BH a1;obtain⟨Ag,cg,rfl⟩:=BH h.fg;by_cases a3:300<=b.R.length
 ·have q1:(300:Int)<=(j.length:Int):=by omega
  have HE:Hid (DY (leftOf x) b left q.s=.error (7,q.s.p)):=Hd (by simp[DY,a3]);have HA:=Hd (h.alloc (nO #[q.v,q.s.p] 226));rw[ab]at HA ⊢;clear h hr ai hq aj a1 ay a3;generalize j.length=n at *;generalize q.s.l.length=n2 at *;go_enter func125,ntmps125
  go_wp2_with (go_at_call 166;refine(Ej _ _ _).mono ?_;rintro e w' ⟨rfl,a5⟩;subst a5)
  refine⟨rfl,HA.below,?_⟩;rw[HE.out];exact BW.of rfl rfl
 ·have q1:¬(300:Int)<=(j.length:Int):=by omega
  have bp:b.R.length<300:=by omega
  have bc:Hid (∀p,DV (leftOf x) b 0 q.s.l=.ok p->p.R=b.R->DY (leftOf x) b left q.s=if b.R.contains (left::q.s.l.map Tk.s) then .error (8,q.s.p) else .ok {p with R:=p.R++[left::q.s.l.map Tk.s]}):=Hd (fun p o P=>by unfold DY;rw[if_neg a3,o];simp only;rw[P]);have bd:Hid (∀f,DV (leftOf x) b 0 q.s.l=.error f->DY (leftOf x) b left q.s=.error f):=Hd (fun f o=>by unfold DY;rw[if_neg a3,o]);have b4:=h.below.size;have b3:FZ R w bb tm nm rb tv nv (nC Ag j.length cg) j (w.heap.size+1+1) w.heap.size q.v q.s.p left [] b tv nv (nC (w.heap.size+1,0) 1 1) DT DN (((w.alloc (nO #[q.v,q.s.p] 226)).alloc (nO #[nH (str left)] 9)).alloc (nO #[nC (w.heap.size+1,0) 1 1] 55)):=by
   have k1:=Ah.new w 226 #[q.v,q.s.p];have k2:=Ah.new (w.alloc (nO #[q.v,q.s.p] 226)) 9 #[nH (str left)];have k3:=Ah.new ((w.alloc (nO #[q.v,q.s.p] 226)).alloc (nO #[nH (str left)] 9)) 55 #[nC (w.heap.size+1,0) 1 1];rw[World.size_alloc]at k2;rw[World.size_alloc,World.size_alloc]at k3;refine⟨((h.alloc _).alloc _).alloc _,k3,(k1.alloc _).alloc _,?_,?_,?_,(((Aj.refl _ w).alloc _).alloc _).alloc _,BM.refl _ _,BM.refl _ _,mR,AF _,b4,fun k C=>(B0 h.fg k C).2,fun q' bq k C=>(B0 (h.rows q' bq) k C).2⟩
   ·exact eH (k2.alloc _) mR rfl mW
   ·rintro k C hh
    cases C
    have P:=(B0 h.ft _ hh).2;simp at P;omega
   ·rintro k C hh
    cases C
    have P:=(B0 h.fn _ hh).2;simp at P;omega
  have ar:=Hd b3;have HH:=Hd h;have HR:=Hd hr;have bh:=Hd ai;have bx:=Hd a1;have bi:=Hd aj;have HL:Hid (∀k t,q.s.l[k]?=nJ t->∃g c,q.v=nC (nJ ⟨g,0,nK⟩) q.s.l.length c/\∀w',Below R R w'->w'.cell? ⟨g,k*3,nK⟩=nJ (nE nM t.k)/\w'.cell? ⟨g,k*3+1,nK⟩=nJ (nH (str t.s))/\w'.cell? ⟨g,k*3+2,nK⟩=nJ (nE nM t.p)):=Hd (fun k t U=>by obtain⟨C,_⟩:=sG.1 U;obtain⟨g,c,hv⟩:=Jb a1 mR;refine⟨g,c,hv,fun w' a5=>?_⟩;have P:=(Aj.AJ (X:=fun _=>False) a5).own a1 (fun _ _=>id);rw[hv]at P;exact NZ P U)
  clear h hr ai hq aj a1 b3 ay;have bf:=Hd ab;rw[ab]at ar ⊢;clear ab c0 c1 c2 c3 c4;generalize b1:q.s.l.length=nl at *;have ae:=Hd b1;clear b1;have c6:j.length<=300:=by omega
  have c9:∀(fn:Fn) (first cap:Array nU) (w:nS),(Instr.makeFunc fn first cap).run Tryz.prog w=.ok (.func fn first cap) w:=fun _ _ _ _=>rfl
  go_enter func125,ntmps125
  go_wp2;generalize bu:(((w.alloc (nO #[nC As nl cs,q.s.p] 226)).alloc (nO #[nH (str left)] 9)).alloc (nO #[nC (w.heap.size+1,0) 1 1] 55))=wS at *;generalize cc:w.heap.size+1+1=xb at *;clear bu c7;go_loopw [23] (fun ad wr=>∃(k:Nat) (done:List AM) (p:Bd) (b6 b5 xv:nU) (an al:DataW Unit),k<=nl/\ad=nE nM k/\done.length=k/\Hid (FZ R w bb tm nm rb tv nv (nC Ag j.length cg) j xb w.heap.size (nC As nl cs) q.s.p left done p b6 b5 xv an al wr)/\Hid (done=(q.s.l.take k).map Tk.s)/\Hid (DV (leftOf x) b 0 q.s.l=DV (leftOf x) p k (q.s.l.drop k))/\Hid (p.R=b.R)) (fun ad _=>nl-(intOf ad).toNat)
  case atStart=>exact⟨0,[],b,tv,nv,_,DT,DN,A0 _,rfl,rfl,ar,Hd rfl,Hd rfl,Hd rfl⟩
  case round=>
   obtain⟨_,done,p,b6,b5,xv,an,al,C,rfl,rfl,I,HD,HY,a6⟩:=hrel;by_cases b0:done.length<nl
   ·obtain⟨t,U⟩:∃t,q.s.l[done.length]?=nJ t:=⟨_,eG (by rw[ae.out];exact b0)⟩
    obtain⟨g,c,az,aw⟩:=HL done.length t U;obtain⟨e0,e1,e2⟩:=aw wr I.at_.below;rw[bf.out]at az;cases az
    have ax:q.s.l.drop done.length=t::q.s.l.drop (done.length+1):=by obtain⟨ag,e⟩:=sG.1 U;rw[List.drop_eq_getElem_cons ag,e]
    have ba:Hid (done++[t.s]=(q.s.l.take (done.length+1)).map Tk.s):=Hd (by obtain⟨ag,e⟩:=sG.1 U;have o:=HD.out;rw[List.take_succ_eq_append_getElem ag,e,Bz,<-o];rfl)
    have bt:=bi t (mG U);have af:=Hd (I.alloc (nO #[t.k,nH (str t.s),t.p] 216));have a9:=Hd (eM af.at_ HR bh t bt done.length (done.length:Int) rfl);have ao:=Hd (Ah.new wr 216 #[t.k,nH (str t.s),t.p]);have au:Hid (∀r,D9 (leftOf x) p t done.length=r->DV (leftOf x) b 0 q.s.l=match r with | .error e=>.error e | .ok b2=>DV (leftOf x) b2 (done.length+1) (q.s.l.drop (done.length+1))):=Hd (fun r hr=>by rw[HY.out,ax,DV,hr];cases r<;>rfl);clear U aw ax
    obtain⟨Ax,cx,ak⟩:=BH I.own;subst ak;cases i:D9 (leftOf x) p t done.length with
    | error f=>
     have HE:=Hd (bd f (au _ i));rw[i]at a9;clear i;go_wp2_with (go_at_call 168;refine a9.mono ?_;intro e w2 hx;obtain⟨a0,hx⟩:=hx;have hx:e=_:=hx;subst hx)
     refine⟨rfl,a0,?_⟩;rw[HE.out];exact BW.of rfl rfl
    | ok b2=>
     have bl:=Hd (au _ i);have b9:Hid (b2.R=b.R):=Hd (by
      have o:=a6.out;unfold D9 at i;split at i
      ·cases i
      split at i
      ·injection i with i;rw[<-i];exact o
      split at i
      ·split at i
       · cases i
       · injection i with i;rw[<-i];exact o
      split at i
      ·injection i with i;rw[<-i];exact o
      ·cases i)
     rw[i]at a9;clear i;have ca:=I.Ay.size;go_wp2_with (first
      | (
        go_at_call 168;refine a9.mono ?_;intro e w2 hx;obtain⟨a0,rfl,bw,bv,b8,b7,z1,z2,z3,z4⟩:=hx
        have a2:=Hd (af.sym z1 z2 z3 z4);have bk:=Hd (z2.Ap ao (KM af.at_ ao mT mT));have x1:=bk.cell 1;have y0:=a2.box.cell 0;have y1:=a2.box.frozen 0;have br:=z2.size;simp at x1 y0 br;clear a0 z1 z2 z3 z4)
      | (
        at_builtin;refine Du On (.tmp 32) (.tmp 35) rfl rfl (base:=w.heap.size) (n:=done.length+1) (m:=1) (N:=done.length+1+1) (xs:=(left::done).map Nv) (news:=[Nv t.s]) rfl rfl (a2.own.alloc _) (OZ w2 _) rfl mW mR mX ?_
        intro A3 c3 w3 r1 r2 r3;have HF:=Hd (a2.app r1 r3);have ah:=r2.Ap (a2.box.alloc _) (.inr mT);have z0:=ah.cell 0;have zf:=ah.frozen 0;simp at z0;clear r1 r2 r3 ah))
     go_roundw
     case rel=>exact⟨done.length+1,done++[t.s],b2,bw,bv,_,b8,b7,mR,mY,mV,HF,ba,bl,b9⟩
     case measure=>simp[intOf];omega
   ·obtain rfl:nl=done.length:=by omega
    have HX:Hid (done=q.s.l.map Tk.s):=Hd (by have o:=HD.out;rw[Dd (by have:=ae.out;omega)]at o;exact o)
    have bj:Hid (DV (leftOf x) b 0 q.s.l=.ok p):=Hd (by have o:=HY.out;rw[List.drop_of_length_le (by have:=ae.out;omega)]at o;exact o)
    have a8:=Hd (kX I.at_.fg (fun l=>(left::done)==l) 170 #[(xb,0)] (fun _ _=>by kernel_rfl) (fun u hu y hy=>by have o:=I.later hy;refine(aT (p:=⟨xb,0,nK⟩) (a:=left::done) o.own (o.at_.rows u hu) (o.box.cell 0)).mono ?_;rintro e w' ⟨P,n,rfl⟩;exact⟨P,⟨rfl,rfl,rfl,AF _,fun _ _=>rfl⟩⟩))
    have a7:Hid (b.R.contains (left::q.s.l.map Tk.s)=(j.map BJ.l).any fun l=>(left::done)==l):=Hd (by rw[I.at_.names,a6.out,<-HX.out];exact List.contains_eq_any_beq)
    have aq:=Hd (bc p bj a6);have bn:p.R.length<300:=by rw[a6.out];exact bp
    obtain⟨Ax,cx,ak⟩:=BH I.own;subst ak;obtain⟨c0,c1,c2,c3,c4,c7,av⟩:=I.at_.cells;clear b0 bo a3;cases aa:(j.map BJ.l).any fun l=>(left::done)==l with
    | true=>
     rw[aa]at a8 a7;clear aa;have HE:Hid (DY (leftOf x) b left q.s=.error (8,q.s.p)):=Hd (by rw[aq.out,a7.out];rfl);go_wp2_with (first
      | (
        go_at_call 169;refine a8.mono ?_;rintro e w3 ⟨rfl,a4⟩
        have T:=Hd (I.later a4);have y1:=T.JF.cell 1;simp at y1;clear a4)
      | (go_at_call 166;refine(Ej _ _ _).mono ?_;rintro e w' ⟨rfl,a5⟩;subst a5))
     refine⟨rfl,T.at_.below,?_⟩;rw[HE.out];exact BW.of rfl rfl
    | false=>
     rw[aa]at a8 a7;clear aa;have HE:Hid (DY (leftOf x) b left q.s=.ok {p with R:=p.R++[left::done]}):=Hd (by rw[aq.out,a7.out,<-HX.out];rfl);go_wp2_with (
          go_at_call 169;refine a8.mono ?_;rintro e w3 ⟨rfl,a4⟩
          have T:=Hd (I.later a4);clear a4)
     clear c0 c1 c2 c3 c4 c7 av;obtain⟨c0,c1,c2,c3,c4,c7,av⟩:=T.at_.cells;have y0:=T.box.cell 0;simp at y0;have cd:=T.box.lt;have J:=Hd T.drew;have cb:=T.Ay.size;have bz:=j.length;go_region_law (go_loud (
           refine Fe Xj (.tmp 51) (.tmp 53) ?_ ?_ (base:=R.heap.size) (n:=j.length) (m:=1) (N:=j.length+1) (v:=nC Ag j.length cg) (src:=nC (w3,0) 1 1) (xs:=j.map BJ.v) (news:=[nC Ax (done.length+1) cx]) ?_ ?_ ?_ ?_ ?_ ?_ ?_ ?_ ?_
           ·rfl
           ·rfl
           ·rfl
           ·rfl
           ·exact J.at_.fg.alloc _
           ·exact Ba.Ap (c:=1) (Ah.new w3.drew 55 #[nC Ax (done.length+1) cx]) rfl mZ
           ·rfl
           ·unfold maxLen;omega
           ·omega
           ·simp;omega
           intro A4 bm w4 q1 q2 q3;have HF:=Hd (V3 (x:=left::done) J.at_ (IK J.own b4) J.xt J.xn bn q1 q3);have be:Hid (BM w (nC Ag j.length cg) (nC A4 (j.length+1) bm)):=Hd (fun k C=>by
            rcases q3.2 with e|e
            ·exact .inl (e▸C)
            ·rw[e]at C;cases C;exact .inr mX)
           have hX:Aj (fun k=>(Value.slice Ag j.length cg).ownBlock=nJ k) w3.drew w4:=((Aj.refl _ w3.drew).alloc (nO #[nC Ax (done.length+1) cx] 55)).next (.Cy q3.1);have a0:=hX.Ap J.at_.Ap (CB J.at_.fg J.at_.Ap mT);have z7:=a0.cell 7;have zf:=a0.frozen 7;simp at z7;clear q1 q2 q3 hX a0))
     all_goals go_wp2
     all_goals go_end0
     all_goals refine⟨HF.1.below,?_⟩
     all_goals rw[HE.out]
     all_goals refine⟨rfl,_,_,_,_,_,_,HF.1,?_,J.nt,J.nn,be⟩
     all_goals exact(J.Ay.mono (fun _ h=>.inl h)).next (HF.2.mono (fun ad hi=>hi.elim .inr (fun h=>.inl (.inl h))))
end
section
open Go.RowKit Go.Proofs.Tryz Go.Maps
def G8(b:Bd):Except Bn (List AM)->Except Bn Bd
 | .ok T=>.ok {b with T:=T}
 | .error f=>.error f
def Pe{b:Bd}{t:Tk}(i:t.s ∉ b.T):Hs b t=match Cv b.T t with | .error e=>.error e | .ok T=>.ok {b with T:=T}:=by
 unfold Hs Cv;rw[if_neg (show ¬b.T.contains t.s=true by simpa using i)];by_cases h:120<=b.T.length
 ·rw[if_pos h,if_pos h]
 ·rw[if_neg h,if_neg h]
def Nw{m:Nat}{st:Tk}(h:BY x=nJ (m,st)):(∃r,x.marks=m::r)/\∃r,x.starts=st::r:=by
 unfold BY at h;split at h
 ·rename_i l o
  injection h with h;injection h with i j;subst i;subst j;exact⟨⟨_,l⟩,⟨_,o⟩⟩
 ·cases h
theorem eR(j:x.marks.length=x.starts.length)(h:BY x=nK):x.starts.length=0:=by
 unfold BY at h;split at h
 ·cases h
 ·rename_i l
  cases i:x.marks with
  | nil=>rw[i]at j;simpa using j.symm
  | cons a r=>
   cases o:x.starts with
   | nil=>rfl
   | cons s q=>exact absurd o (fun e=>l a r s q i e)
def Ow{T w:nS}{i R P:Nat}{tv nv C:nU}{b:Bd}{p:List BJ}{l j:DataW Unit}(h:BQ T w i R P rb tv nv C b p l j)(t:Tk)(I:120<=b.T.length) :
  () 203 #[(i,0),.agg #[t.k,nH (str t.s),t.p]] w fun e w'=>BW (7,t.p) e/\Below w w w':=by
 obtain⟨A,c,rfl⟩:=BH h.ft;have o:=Hd (AE w (nO #[t.k,nH (str t.s),t.p] 216));obtain⟨U,c1,c2,c3,c4,c7,a0⟩:=h.cells;have q1:(120:Int)<=(b.T.length:Int):=by omega
 clear h I;generalize b.T.length=n at *;go_enter func203,ntmps203
 go_wp2_with (go_at_call 166;refine(Ej _ _ _).mono ?_;rintro e w' ⟨rfl,J⟩;subst J)
 exact⟨rfl,BW.of rfl rfl,o⟩
def gO(R w:nS)(j o l rb:Nat)(tv nv I:nU)(C:List BJ)(r:Except Bn Bd)(e:Ending)(w':nS):Prop:=
 ∃i P J t p,BQ R w' j o l rb P J I i C t p/\Aj (Dy j o l tv nv) w w'/\match r with
 | .ok b=>e=nP (.tuple #[])/\i=b
 | .error f=>BW f e
def Yg{w0 w:nS}{bb tm nm:Nat}{tv nv gv:nU}{b:Bd}{gs:List BJ}(h:BQ w0 w bb tm nm rb tv nv gv b gs DT DN)(hr:DM w0 B rb mb tb l x dv kv sv rv rs D)(br:rs.map Br.r=x.rules)
  (bt:x.marks.length=x.starts.length) (bu:∀t∈x.decl,t.s.length<=8192) (bv:∀t∈x.starts,t.s.length<=8192) :
  () 167 #[(bb,0)] w (gO w0 w bb tm nm rb tv nv gv gs (G8 b (BI (leftOf x) (BY x) x.decl b.T))):=by
 obtain⟨c0,c1,c2,c3,c4,c7,aa⟩:=h.cells;obtain⟨k1,k2,k3,_,_,_⟩:=(hr.later h.below).By.A8.cells;have bz:Hid (∀J,Below w0 w0 J->nQ J (rb,2)=nJ kv/\nQ J (rb,3)=nJ sv):=Hd (fun J hb=>by obtain⟨_,a2,a3,_,_,_⟩:=(hr.later hb).By.A8.cells;exact⟨a2,a3⟩)
 obtain⟨As,cs,bw⟩:=BH hr.By.starts;obtain⟨Ad,cd,bp⟩:=BH hr.By.decl;have HL:Hid (∀k t,x.decl[k]?=nJ t->∃g c,dv=nC (nJ ⟨g,0,nK⟩) x.decl.length c/\∀J,Below w0 w0 J->nQ J ⟨g,k*3,nK⟩=nJ (nE nM t.k)/\nQ J ⟨g,k*3+1,nK⟩=nJ (nH (str t.s))/\nQ J ⟨g,k*3+2,nK⟩=nJ (nE nM t.p)):=Hd (fun k t ht=>by obtain⟨hk,_⟩:=sG.1 ht;obtain⟨g,c,hv⟩:=Jb hr.By.decl mR;refine⟨g,c,hv,fun J a9=>?_⟩;have h2:=(Aj.AJ (X:=fun _=>False) a9).own hr.By.decl (fun _ _=>id);rw[hv]at h2;exact NZ h2 ht)
 have HM:Hid (∀m U,BY x=nJ (m,U)->∃g c,kv=nC (nJ ⟨g,0,nK⟩) x.marks.length c/\0<x.marks.length/\∀J,Below w0 w0 J->nQ J ⟨g,0,nK⟩=nJ (nE nM m)):=Hd (fun m U P=>by
  obtain⟨⟨r,e1⟩,r2,e2⟩:=Nw P;have b9:0<x.marks.length:=by rw[e1];simp
  obtain⟨g,c,hv⟩:=Jb hr.By.marks b9;refine⟨g,c,hv,b9,fun J a9=>?_⟩;have h2:=(Aj.AJ (X:=fun _=>False) a9).own hr.By.marks (fun _ _=>id);rw[hv]at h2;have:=Bb h2 0 mR;rw[this,e1];rfl)
 have bl:Hid (∀m U,BY x=nJ (m,U)->∀J,Below w0 w0 J->nQ J (bb,0)=nJ (nF (rb,0))->() 202 #[(bb,0)] J (S0 J (EB (leftOf x) U))):=Hd (fun m U P J a9 p=>by obtain⟨_,r2,e2⟩:=Nw P;exact iW (hr.later a9) p br e2 (bv U (by rw[e2];simp)))
 have c9:Hid ((BY x=nK/\x.starts.length=0)\/(BY x≠nK/\0<x.starts.length)):=Hd (by
  cases P:BY x with
  | none=>exact .inl ⟨rfl,eR bt P⟩
  | some al=>obtain⟨_,r2,e2⟩:=Nw (m:=al.1) (st:=al.2) P;exact .inr ⟨mV,by rw[e2];simp⟩)
 have c6:Hid (∀t∈x.decl,t.s.length<=8192):=Hd bu;have ct:x.decl.length<=100000:=by have:=hr.By.ld;omega
 have cl:x.starts.length<=100000:=by have:=hr.By.ls;omega
 have cu:x.marks.length<=100000:=by have:=hr.By.lm;omega
 have HH:=Hd h;have ca:=Hd bw;have c8:=Hd bp;clear h hr br bt bu bv c1 c2 c3 c4 c7;subst bw;subst bp;clear ca c8;generalize bq:x.decl.length=nd at *;generalize cm:x.starts.length=ns at *;generalize ck:x.marks.length=nk at *;have bk:=Hd bq;clear bq cm ck;go_enter func167,ntmps167
 go_wp2;go_loopw [2,20] (fun U ad wr=>∃(k:Nat) (ak:Option (Nat×Tk)) (n':Nat) (A':Option Addr) (c':Nat) (o:Bd) (bf be:nU) (bi bh:DataW Unit),k<=nd/\ad=nE nM k/\U=nC A' n' c'/\n'<=100000/\Hid ((ak=nK/\n'=0)\/(ak=BY x/\ak≠nK/\0<n'))/\Hid (BQ w0 wr bb tm nm rb bf be gv o gs bi bh)/\Hid (Aj (Dy bb tm nm tv nv) w wr/\BM w tv bf/\BM w nv be)/\Hid (BI (leftOf x) (BY x) x.decl b.T=BI (leftOf x) ak (x.decl.drop k) o.T)/\Hid (o.N=b.N/\o.R=b.R)) (fun _ ad _=>nd-(intOf ad).toNat)
 case atStart=>exact⟨0,BY x,ns,_,_,b,tv,nv,DT,DN,A0 _,rfl,rfl,cl,Hd (c9.imp id (fun h=>⟨rfl,h.1,h.2⟩)),HH,Hd ⟨Aj.refl _ _,BM.refl _ _,BM.refl _ _⟩,Hd rfl,Hd ⟨rfl,rfl⟩⟩
 case round=>
  obtain⟨k,ak,n',A',c',o,bf,be,bi,bh,hk,rfl,rfl,cr,HO,HA,HC,HY,b7⟩:=hrel;clear c0 k1 k2 k3 aa;obtain⟨c0,c1,c2,c3,c4,c7,aa⟩:=HA.cells;by_cases b9:k<nd
  ·obtain⟨t,ht⟩:∃t,x.decl[k]?=nJ t:=⟨_,eG (by rw[bk.out];exact b9)⟩
   obtain⟨g,c,cf,bm⟩:=HL k t ht;obtain⟨e0,e1,e2⟩:=bm wr HA.below;cases cf
   have a1:=c6 t (mG ht);have bo:x.decl.drop k=t::x.decl.drop (k+1):=by obtain⟨cg,e⟩:=sG.1 ht;rw[List.drop_eq_getElem_cons cg,e]
   have ar:Hid (BI (leftOf x) (BY x) x.decl b.T=BI (leftOf x) ak (t::x.decl.drop (k+1)) o.T):=Hd (by rw[HY.out,bo]);clear ht bm bo;have ab:=Hd (Ah.new wr 216 #[t.k,nH (str t.s),t.p]);have a6:=Hd (HA.alloc (nO #[t.k,nH (str t.s),t.p] 216));have aq:=Hd (HC.1.alloc (nO #[t.k,nH (str t.s),t.p] 216));have bd:wr.heap.size<(wr.alloc (nO #[t.k,nH (str t.s),t.p] 216)).heap.size:=by simp
   generalize cn:(wr.alloc (nO #[t.k,nH (str t.s),t.p] 216))=w1 at *;have ba:=Hd cn;clear c0 c1 c2 c3 c4 c7 aa;obtain⟨c0,c1,c2,c3,c4,c7,aa⟩:=a6.cells;obtain⟨k2,k3⟩:=bz w1 a6.below;have x0:=ab.cell 0;have x1:=ab.cell 1;have x2:=ab.cell 2;simp at x0 x1 x2;rcases HO.out with⟨ho,av⟩|⟨ho,aw,av⟩
   ·subst av
    go_wp2
    go_region
    go_wp2;obtain⟨T,R,A2,a8,ah,b6,b0,af⟩:∃(T:Option (Nat×Tk)) (R:Nat) (A2:Option Addr) (a8:Nat),Value.slice A' 0 c'=nC A2 R a8/\R<=100000/\Hid ((T=nK/\R=0)\/(T=BY x/\T≠nK/\0<R))/\Hid (∀r,Cv o.T t=r->BI (leftOf x) (BY x) x.decl b.T=match r with | .error e=>.error e | .ok T'=>BI (leftOf x) T (x.decl.drop (k+1)) T'):=
     ⟨nK,0,A',c',rfl,mR,Hd (.inl ⟨rfl,rfl⟩),Hd (fun r hr=>by rw[ar.out,ho,BI,hr];cases r<;>rfl)⟩
    rw[ah];clear ah;have I:=Hd a6.drew;have a4:=Hd (((Aj.refl (fun _=>False) w1).drew).Ap ab id);have a0:=Hd aq.drew;clear c0 c1 c2 c3 c4 c7 aa x0 x1 x2 k2 k3 e0 e1 e2;generalize w1.drew=wz at *;have ae:Hid (∀r,Cv o.T t=r->∀f,r=.error f->G8 b (BI (leftOf x) (BY x) x.decl b.T)=.error f):=Hd (fun r h1 f h2=>by rw[af.out _ h1,h2];rfl);clear HA HY ar a6 ab aq ba HO bd;obtain⟨c0,c1,c2,c3,c4,c7,aa⟩:=I.cells;have x0:=a4.cell 0;have x1:=a4.cell 1;have x2:=a4.cell 2;simp at x0 x1 x2;have ai:=Jv I.drew.mt I.pt a1
    have bx:=a4.lt;generalize wr.heap.size=xb at *;by_cases p:t.s∈o.T
    ·have HE:=Hd (ae (.error (8,t.p)) (by unfold Cv;rw[if_pos (by simpa using p)]) (8,t.p) rfl)
     rw[if_pos p]at ai;have b5:o.T.idxOf t.s+1≠0:=by omega
     generalize o.T.idxOf t.s+1=n1 at *;have q2:(0:Int)<(n1:Int):=by
      rcases Nat.eq_zero_or_pos n1 with e|e
      ·exact absurd b5 mR
      ·omega
     clear p a1
     go_region
     go_wp2_with (go_at_call 166;refine(Ej _ _ _).mono ?_;rintro e J ⟨rfl,a9⟩;subst a9)
     refine⟨rfl,_,_,_,_,_,I.drew,a0.drew,?_⟩;rw[HE.out];exact BW.of rfl rfl
    ·rw[if_neg p,show ((0:Nat):Int)=0 from rfl]at ai
     have a7:=Hd (Na I.drew t a1 p);have a5:=Pe p;cases j:Cv o.T t with
     | error f=>
      obtain⟨hf,ag⟩:f=(7,t.p)/\120<=o.T.length:=by
       unfold Cv at j;rw[if_neg (by simpa using p)]at j;split at j
       ·rename_i h
        injection j with j;exact⟨j.symm,h⟩
       ·cases j
      subst hf;have b1:=Hd (Ow I.drew t ag);have HE:=Hd (ae _ j _ rfl);clear a5 j p a1 a7 ag
      go_region
      go_wp2_with (go_at_call 203;refine b1.mono ?_;intro e w2 i;obtain⟨i,C⟩:=i;have i:e=_:=i;subst i)
      refine⟨rfl,_,_,_,_,_,I.drew.Ay (.AJ (X:=fun _=>False) C) (fun _ _=>id),a0.drew.next (.AJ C),?_⟩;rw[HE.out];exact BW.of rfl rfl
     | ok T2=>
      rw[j]at a5;rw[a5]at a7;have b2:=Hd (af _ j);clear a5 j p a1
      go_region
      go_wp2_with (
           go_at_call 203;refine a7.mono ?_;intro e w2 i;obtain⟨C,rfl,an,aj,ay,ax,z1,z2,z3,z4⟩:=i
           have b3:=Hd z1;have b4:Hid (Aj (Dy bb tm nm tv nv) w w2/\BM w tv an/\BM w nv aj):=Hd ⟨a0.drew.trans z2 (fun ad hi=>HC.2.1.Nb HC.2.2 ad hi),HC.2.1.next z3 a0.drew.size,HC.2.2.next z4 a0.drew.size⟩;clear C z1 z2 z3 z4)
      go_roundw
      case rel=>exact⟨k+1,T,R,A2,a8,_,an,aj,ay,ax,mR,mY,rfl,b6,b0,b3,b4,b2,b7⟩
      case measure=>simp[intOf];omega
   ·obtain⟨m,U,P⟩:∃m U,BY x=nJ (m,U):=by
     cases P:BY x with
     | none=>exact absurd (ho.trans P) aw
     | some al=>exact⟨al.1,al.2,rfl⟩
    obtain⟨g2,cc,ch,cq,bn⟩:=HM m U P;have m0:=bn w1 a6.below;cases ch
    have HU:=Hd (bl m U P w1.drew a6.drew.below a6.drew.cells.1);have cj:(0:Int)<(n':Int):=by omega
    have cp:(0:Int)<(nk:Int):=by omega
    have b8:=Hd P;have az:=Hd ho;clear P ho aw bn;by_cases au:m<t.p
    ·have q1:(m:Int)<(t.p:Int):=by omega
     cases hs:EB (leftOf x) U with
     | error f=>
      rw[hs]at HU;have HE:Hid (G8 b (BI (leftOf x) (BY x) x.decl b.T)=.error f):=Hd (by rw[ar.out,az.out,b8.out,BI,if_pos au,hs];rfl);clear hs au;go_wp2
      go_region
      go_wp2_with (go_at_call 202;refine HU.mono ?_;intro e w2 i;obtain⟨C,i⟩:=i;have i:e=_:=i;subst i)
      refine⟨rfl,_,_,_,_,_,a6.drew.Ay (.AJ (X:=fun _=>False) C) (fun _ _=>id),aq.drew.next (.AJ C),?_⟩;rw[HE.out];exact BW.of rfl rfl
     | ok uu=>
      rw[hs]at HU;have cb:Hid (∀r,Cv o.T t=r->BI (leftOf x) (BY x) x.decl b.T=match r with | .error e=>.error e | .ok T'=>BI (leftOf x) nK (x.decl.drop (k+1)) T'):=Hd (fun r hr=>by rw[ar.out,az.out,b8.out,BI,if_pos au,hs];simp only;rw[hr];cases r<;>rfl);clear hs au;go_wp2
      go_region
      go_wp2_with (go_at_call 202;refine HU.mono ?_;intro e wz i;obtain⟨C,rfl⟩:=i;have ao:=Hd C;clear C)
      obtain⟨T,R,A2,a8,ah,b6,b0,af⟩:∃(T:Option (Nat×Tk)) (R:Nat) (A2:Option Addr) (a8:Nat),Value.slice nK 0 0=nC A2 R a8/\R<=100000/\Hid ((T=nK/\R=0)\/(T=BY x/\T≠nK/\0<R))/\Hid (∀r,Cv o.T t=r->BI (leftOf x) (BY x) x.decl b.T=match r with | .error e=>.error e | .ok T'=>BI (leftOf x) T (x.decl.drop (k+1)) T'):=
       ⟨nK,0,nK,0,rfl,mR,Hd (.inl ⟨rfl,rfl⟩),cb⟩
      rw[ah];clear ah;have I:=Hd (a6.drew.Ay (.AJ (X:=fun _=>False) ao) (fun _ _=>id));have a4:=Hd (((Aj.refl (fun _=>False) w1).drew.next (.AJ ao)).Ap ab id);have a0:=Hd (aq.drew.next (.AJ ao));clear c0 c1 c2 c3 c4 c7 aa x0 x1 x2 k2 k3 e0 e1 e2 HU ao;have ae:Hid (∀r,Cv o.T t=r->∀f,r=.error f->G8 b (BI (leftOf x) (BY x) x.decl b.T)=.error f):=Hd (fun r h1 f h2=>by rw[af.out _ h1,h2];rfl);clear HA HY ar a6 ab aq ba HO bd;obtain⟨c0,c1,c2,c3,c4,c7,aa⟩:=I.cells;have x0:=a4.cell 0;have x1:=a4.cell 1
      have x2:=a4.cell 2;simp at x0 x1 x2;have ai:=Jv I.drew.mt I.pt a1;have bx:=a4.lt;generalize wr.heap.size=xb at *;by_cases p:t.s∈o.T
      ·have HE:=Hd (ae (.error (8,t.p)) (by unfold Cv;rw[if_pos (by simpa using p)]) (8,t.p) rfl)
       rw[if_pos p]at ai;have b5:o.T.idxOf t.s+1≠0:=by omega
       generalize o.T.idxOf t.s+1=n1 at *;have q2:(0:Int)<(n1:Int):=by
        rcases Nat.eq_zero_or_pos n1 with e|e
        ·exact absurd b5 mR
        ·omega
       clear p a1
       go_region
       go_wp2_with (go_at_call 166;refine(Ej _ _ _).mono ?_;rintro e J ⟨rfl,a9⟩;subst a9)
       refine⟨rfl,_,_,_,_,_,I.drew,a0.drew,?_⟩;rw[HE.out];exact BW.of rfl rfl
      ·rw[if_neg p,show ((0:Nat):Int)=0 from rfl]at ai
       have a7:=Hd (Na I.drew t a1 p);have a5:=Pe p;cases j:Cv o.T t with
       | error f=>
        obtain⟨hf,ag⟩:f=(7,t.p)/\120<=o.T.length:=by
         unfold Cv at j;rw[if_neg (by simpa using p)]at j;split at j
         ·rename_i h
          injection j with j;exact⟨j.symm,h⟩
         ·cases j
        subst hf;have b1:=Hd (Ow I.drew t ag);have HE:=Hd (ae _ j _ rfl);clear a5 j p a1 a7 ag
        go_region
        go_wp2_with (go_at_call 203;refine b1.mono ?_;intro e w2 i;obtain⟨i,C⟩:=i;have i:e=_:=i;subst i)
        refine⟨rfl,_,_,_,_,_,I.drew.Ay (.AJ (X:=fun _=>False) C) (fun _ _=>id),a0.drew.next (.AJ C),?_⟩;rw[HE.out];exact BW.of rfl rfl
       | ok T2=>
        rw[j]at a5;rw[a5]at a7;have b2:=Hd (af _ j);clear a5 j p a1
        go_region
        go_wp2_with (
             go_at_call 203;refine a7.mono ?_;intro e w2 i;obtain⟨C,rfl,an,aj,ay,ax,z1,z2,z3,z4⟩:=i
             have b3:=Hd z1;have b4:Hid (Aj (Dy bb tm nm tv nv) w w2/\BM w tv an/\BM w nv aj):=Hd ⟨a0.drew.trans z2 (fun ad hi=>HC.2.1.Nb HC.2.2 ad hi),HC.2.1.next z3 a0.drew.size,HC.2.2.next z4 a0.drew.size⟩;clear C z1 z2 z3 z4)
        go_roundw
        case rel=>exact⟨k+1,T,R,A2,a8,_,an,aj,ay,ax,mR,mY,rfl,b6,b0,b3,b4,b2,b7⟩
        case measure=>simp[intOf];omega
    ·have q1:¬(m:Int)<(t.p:Int):=by omega
     go_wp2
     go_region
     go_wp2;obtain⟨T,R,A2,a8,ah,b6,b0,af⟩:∃(T:Option (Nat×Tk)) (R:Nat) (A2:Option Addr) (a8:Nat),Value.slice A' n' c'=nC A2 R a8/\R<=100000/\Hid ((T=nK/\R=0)\/(T=BY x/\T≠nK/\0<R))/\Hid (∀r,Cv o.T t=r->BI (leftOf x) (BY x) x.decl b.T=match r with | .error e=>.error e | .ok T'=>BI (leftOf x) T (x.decl.drop (k+1)) T'):=
      ⟨ak,n',A',c',rfl,mR,Hd (.inr ⟨az,by rw[az.out,b8.out];simp,av⟩),Hd (fun r hr=>by rw[ar.out,az.out,b8.out,BI,if_neg au,hr];cases r<;>rfl)⟩
     rw[ah];clear ah au;have I:=Hd a6.drew;have a4:=Hd (((Aj.refl (fun _=>False) w1).drew).Ap ab id);have a0:=Hd aq.drew;clear c0 c1 c2 c3 c4 c7 aa x0 x1 x2 k2 k3 e0 e1 e2 HU;generalize w1.drew=wz at *;have ae:Hid (∀r,Cv o.T t=r->∀f,r=.error f->G8 b (BI (leftOf x) (BY x) x.decl b.T)=.error f):=Hd (fun r h1 f h2=>by rw[af.out _ h1,h2];rfl);clear HA HY ar a6 ab aq ba HO bd;obtain⟨c0,c1,c2,c3,c4,c7,aa⟩:=I.cells;have x0:=a4.cell 0;have x1:=a4.cell 1;have x2:=a4.cell 2;simp at x0 x1 x2;have ai:=Jv I.drew.mt I.pt a1
     have bx:=a4.lt;generalize wr.heap.size=xb at *;by_cases p:t.s∈o.T
     ·have HE:=Hd (ae (.error (8,t.p)) (by unfold Cv;rw[if_pos (by simpa using p)]) (8,t.p) rfl)
      rw[if_pos p]at ai;have b5:o.T.idxOf t.s+1≠0:=by omega
      generalize o.T.idxOf t.s+1=n1 at *;have q2:(0:Int)<(n1:Int):=by
       rcases Nat.eq_zero_or_pos n1 with e|e
       ·exact absurd b5 mR
       ·omega
      clear p a1
      go_region
      go_wp2_with (go_at_call 166;refine(Ej _ _ _).mono ?_;rintro e J ⟨rfl,a9⟩;subst a9)
      refine⟨rfl,_,_,_,_,_,I.drew,a0.drew,?_⟩;rw[HE.out];exact BW.of rfl rfl
     ·rw[if_neg p,show ((0:Nat):Int)=0 from rfl]at ai
      have a7:=Hd (Na I.drew t a1 p);have a5:=Pe p;cases j:Cv o.T t with
      | error f=>
       obtain⟨hf,ag⟩:f=(7,t.p)/\120<=o.T.length:=by
        unfold Cv at j;rw[if_neg (by simpa using p)]at j;split at j
        ·rename_i h
         injection j with j;exact⟨j.symm,h⟩
        ·cases j
       subst hf;have b1:=Hd (Ow I.drew t ag);have HE:=Hd (ae _ j _ rfl);clear a5 j p a1 a7 ag
       go_region
       go_wp2_with (go_at_call 203;refine b1.mono ?_;intro e w2 i;obtain⟨i,C⟩:=i;have i:e=_:=i;subst i)
       refine⟨rfl,_,_,_,_,_,I.drew.Ay (.AJ (X:=fun _=>False) C) (fun _ _=>id),a0.drew.next (.AJ C),?_⟩;rw[HE.out];exact BW.of rfl rfl
      | ok T2=>
       rw[j]at a5;rw[a5]at a7;have b2:=Hd (af _ j);clear a5 j p a1
       go_region
       go_wp2_with (
            go_at_call 203;refine a7.mono ?_;intro e w2 i;obtain⟨C,rfl,an,aj,ay,ax,z1,z2,z3,z4⟩:=i
            have b3:=Hd z1;have b4:Hid (Aj (Dy bb tm nm tv nv) w w2/\BM w tv an/\BM w nv aj):=Hd ⟨a0.drew.trans z2 (fun ad hi=>HC.2.1.Nb HC.2.2 ad hi),HC.2.1.next z3 a0.drew.size,HC.2.2.next z4 a0.drew.size⟩;clear C z1 z2 z3 z4)
       go_roundw
       case rel=>exact⟨k+1,T,R,A2,a8,_,an,aj,ay,ax,mR,mY,rfl,b6,b0,b3,b4,b2,b7⟩
       case measure=>simp[intOf];omega
  ·obtain rfl:k=nd:=by omega
   have bc:Hid (BI (leftOf x) (BY x) x.decl b.T=BI (leftOf x) ak [] o.T):=Hd (by have h1:=HY.out;rw[List.drop_of_length_le (by have:=bk.out;omega)]at h1;exact h1)
   have bj:Hid ({b with T:=o.T}=o):=Hd (by obtain⟨h1,h2⟩:=b7.out;cases o;simp at h1 h2;rw[<-h1,<-h2]);rcases HO.out with⟨ho,av⟩|⟨ho,aw,av⟩
   ·subst av
    have HE:Hid (G8 b (BI (leftOf x) (BY x) x.decl b.T)=.ok o):=Hd (by rw[bc.out,ho];exact congrArg Except.ok bj);clear ho;go_wp2
    go_end0
    refine⟨_,_,_,_,_,HA,HC.1,?_⟩;rw[HE.out];exact⟨rfl,rfl⟩
   ·obtain⟨m,U,P⟩:∃m U,BY x=nJ (m,U):=by
     cases P:BY x with
     | none=>exact absurd (ho.trans P) aw
     | some al=>exact⟨al.1,al.2,rfl⟩
    have HU:=Hd (bl m U P wr HA.below HA.cells.1);have cj:(0:Int)<(n':Int):=by omega
    cases hs:EB (leftOf x) U with
    | error f=>
     rw[hs]at HU;have HE:Hid (G8 b (BI (leftOf x) (BY x) x.decl b.T)=.error f):=Hd (by rw[bc.out,ho,P,BI,hs];rfl);clear hs ho aw P;go_wp2_with (go_at_call 202;refine HU.mono ?_;intro e w2 i;obtain⟨C,i⟩:=i;have i:e=_:=i;subst i)
     refine⟨rfl,_,_,_,_,_,HA.Ay (.AJ (X:=fun _=>False) C) (fun _ _=>id),HC.1.next (.AJ C),?_⟩;rw[HE.out];exact BW.of rfl rfl
    | ok uu=>
     rw[hs]at HU;have HE:Hid (G8 b (BI (leftOf x) (BY x) x.decl b.T)=.ok o):=Hd (by rw[bc.out,ho,P,BI,hs];exact congrArg Except.ok bj);clear hs ho aw P;go_wp2_with (go_at_call 202;refine HU.mono ?_;intro e w2 i;obtain⟨C,rfl⟩:=i;have ao:=Hd C;clear C)
     go_end0
     have I:=HA.Ay (.AJ (X:=fun _=>False) ao) (fun _ _=>id);refine⟨_,_,_,_,_,I,HC.1.next (.AJ ao),?_⟩;rw[HE.out];exact⟨rfl,rfl⟩
end
section
open Go.RowKit Go.Proofs.Tryz Go.Maps
def aL(w:nS):(Instr.typeAssert .nilIface 20 164 true).run Tryz.prog w=.ok (.tuple #[.agg #[nE nM 0,nE nM 0],nI false]) w:=by kernel_rfl
def UU(e p:Int)(w:nS):(Instr.typeAssert (.iface 164 (.agg #[e,p])) 20 164 true).run Tryz.prog w=.ok (.tuple #[.agg #[e,p],nI true]) w:=by kernel_rfl
def WV(w:nS):(binOp .neq 20 .nilIface .nilIface).run Tryz.prog w=.ok (nI false) w:=by kernel_rfl
def SA(w:nS):(binOp .eql 20 .nilIface .nilIface).run Tryz.prog w=.ok (nI true) w:=by kernel_rfl
def Xt(v:nU)(w:nS):(binOp .neq 20 (.iface 164 v) .nilIface).run Tryz.prog w=.ok (nI true) w:=by kernel_rfl
def Sw(v:nU)(w:nS):(binOp .eql 20 (.iface 164 v) .nilIface).run Tryz.prog w=.ok (nI false) w:=by kernel_rfl
def PY{fn:Func}{i:Frame}{cs:List Frame}{R:Ending->FrameMode->nS->Prop}{w:nS}(j:fn.results=#[])(l:i.mode=u)(h:R (nP (.tuple #[])) u w):bodyPostS P fn i cs R .normal {tmps:=tmps,defers:=[]} (i::cs) w:=
 ⟨rfl,u,by cases i;simp_all,_,results_none j _ _ _,h⟩
def cI{fn:Func}{i:Frame}{cs:List Frame}{R:Ending->FrameMode->nS->Prop}{w:nS}{j:List PanicEntry}(l:i.mode=u)(h:R (.panicked j) u w):bodyPostS P fn i cs R (.panic j) {tmps:=tmps,defers:=[]} (i::cs) w:=
 ⟨rfl,u,by cases i;simp_all,h⟩
def N4{fn:Func}{j:Frame}{cs:List Frame}{R:Ending->FrameMode->nS->Prop}{w:nS}(h:R (.panicked i) u w):bodyPostS P fn j cs R (.panic i) {tmps:=tmps,defers:=[]} ({j with mode:=u}::cs) w:=
 ⟨rfl,u,rfl,h⟩
def ZE{w:nS}{o J:Nat}(T:nQ w (o,0)=nJ (nF (J,0)))(hn:n<=100000)
  (C:∀w',Below w w w'->() 165 #[(J,0)] w' fun e a3=>e=nP n/\a3=w') :
  CallsD Tryz.prog 164 #[(o,0)] .returning w fun e u' w'=>u'=.returning/\Below w w w'/\e=if n<=8192 then .panicked [{v:=.iface 164 (.agg #[nE nM 8,n]),recovered:=false}] else nP (.tuple #[]):=by
 have a4:o<w.heap.size:=World.block_lt_of_cell? w _ T;have a0:=aL;have a1:=WV;have a2:=SA;have t:=Hd (AE w (nO #[nE nM 0,nE nM 0] 164));have I:=Hd (C _ (AE w (nO #[nE nM 0,nE nM 0] 164)));clear C;by_cases j:n<=8192
 ·have U:(n:Int)<=8192:=by omega
  rw[if_pos j];clear j;refine callsD_of_wpS func164 rfl fun R P i=>?_
  simp only[ntmps164,List.size_toArray,List.length_cons,List.length_nil,Nat.reduceAdd,Nat.reduceSub,Array.replicate_succ,Array.replicate_zero,List.push_toArray,List.append_toArray,List.nil_append,List.cons_append];apply wpS_seq;apply wpS_region;simp[wpOpsS,go_sem,recoverD,i,Exit.thenS];refine wpS_of_wp ?_;have l:=Hd i;clear i;go_wp2_with (first
   | (go_at_call 165;refine I.mono ?_;rintro e w' ⟨rfl,rfl⟩)
   | (go_at_call 166;refine(Ej _ _ _).mono ?_;rintro e w' ⟨rfl,p⟩;subst p))
  exact cI l ⟨rfl,t,rfl⟩
 ·have U:¬(n:Int)<=8192:=by omega
  rw[if_neg j];clear j;refine callsD_of_wpS func164 rfl fun R P i=>?_
  simp only[ntmps164,List.size_toArray,List.length_cons,List.length_nil,Nat.reduceAdd,Nat.reduceSub,Array.replicate_succ,Array.replicate_zero,List.push_toArray,List.append_toArray,List.nil_append,List.cons_append];apply wpS_seq;apply wpS_region;simp[wpOpsS,go_sem,recoverD,i,Exit.thenS];refine wpS_of_wp ?_;have l:=Hd i;clear i;go_wp2_with (first
   | (go_at_call 165;refine I.mono ?_;rintro e w' ⟨rfl,rfl⟩)
   | (go_at_call 166;refine(Ej _ _ _).mono ?_;rintro e w' ⟨rfl,p⟩;subst p))
  exact PY rfl l ⟨rfl,t,rfl⟩
def Wm{w:nS}{I R p:Nat}{k:Int}{a3:List PanicEntry}(hc:nQ w (I,0)=nJ (nF (R,0)))(hn:n<=100000)
  (J:∀w',Below w w w'->() 165 #[(R,0)] w' fun e a4=>e=nP n/\a4=w') :
  CallsD Tryz.prog 164 #[(I,0)] (.panicking ({v:=.iface 164 (.agg #[k,p]),recovered:=false}::a3)) w fun e u' w'=>u'=.panicking ({v:=.iface 164 (.agg #[k,p]),recovered:=true}::a3)/\Below w w w' /\
   e=if n<=8192/\n<p then .panicked [{v:=.iface 164 (.agg #[nE nM 8,n]),recovered:=false}] else .panicked [{v:=.iface 164 (.agg #[k,p]),recovered:=false}]:=by
 have a5:I<w.heap.size:=World.block_lt_of_cell? w _ hc;have a0:=UU;have a1:=Xt;have a2:=Sw;have a6:∀(x:Bool) (w:nS),(Op.unary .not (nI x)).run Tryz.prog w=.ok (nI (!x)) w:=fun _ _=>rfl
 have t:=Hd (AE w (nO #[k,p] 164));have C:=Hd (J _ (AE w (nO #[k,p] 164)));clear J;by_cases j:n<=8192
 ·have q1:(n:Int)<=8192:=by omega
  by_cases o:n<p
  ·have q2:(n:Int)<(p:Int):=by omega
   rw[if_pos ⟨j,o⟩];clear j o;refine callsD_of_wpS func164 rfl fun U T i=>?_
   simp only[ntmps164,List.size_toArray,List.length_cons,List.length_nil,Nat.reduceAdd,Nat.reduceSub,Array.replicate_succ,Array.replicate_zero,List.push_toArray,List.append_toArray,List.nil_append,List.cons_append];apply wpS_seq;apply wpS_region;simp[wpOpsS,go_sem,recoverD,i,Exit.thenS];refine wpS_of_wp ?_;have P:=Hd i;clear i;go_wp2_with (first
    | (go_at_call 165;refine C.mono ?_;rintro e w' ⟨rfl,rfl⟩)
    | (go_at_call 166;refine(Ej _ _ _).mono ?_;rintro e w' ⟨rfl,l⟩;subst l))
   exact N4 ⟨rfl,t,rfl⟩
  ·have q2:¬(n:Int)<(p:Int):=by omega
   rw[if_neg (fun h=>o h.2)];clear j o;refine callsD_of_wpS func164 rfl fun U T i=>?_
   simp only[ntmps164,List.size_toArray,List.length_cons,List.length_nil,Nat.reduceAdd,Nat.reduceSub,Array.replicate_succ,Array.replicate_zero,List.push_toArray,List.append_toArray,List.nil_append,List.cons_append];apply wpS_seq;apply wpS_region;simp[wpOpsS,go_sem,recoverD,i,Exit.thenS];refine wpS_of_wp ?_;have P:=Hd i;clear i;go_wp2_with (first
    | (go_at_call 165;refine C.mono ?_;rintro e w' ⟨rfl,rfl⟩)
    | (go_at_call 166;refine(Ej _ _ _).mono ?_;rintro e w' ⟨rfl,l⟩;subst l))
   exact N4 ⟨rfl,t,rfl⟩
 ·have q1:¬(n:Int)<=8192:=by omega
  rw[if_neg (fun h=>j h.1)];clear j;refine callsD_of_wpS func164 rfl fun U T i=>?_
  simp only[ntmps164,List.size_toArray,List.length_cons,List.length_nil,Nat.reduceAdd,Nat.reduceSub,Array.replicate_succ,Array.replicate_zero,List.push_toArray,List.append_toArray,List.nil_append,List.cons_append];apply wpS_seq;apply wpS_region;simp[wpOpsS,go_sem,recoverD,i,Exit.thenS];refine wpS_of_wp ?_;have P:=Hd i;clear i;go_wp2_with (first
   | (go_at_call 165;refine C.mono ?_;rintro e w' ⟨rfl,rfl⟩)
   | (go_at_call 166;refine(Ej _ _ _).mono ?_;rintro e w' ⟨rfl,l⟩;subst l))
  exact N4 ⟨rfl,t,rfl⟩
def Rh(f:Bn)(e:Ending):Prop:=∃i:List PanicEntry,(i.all fun p=>!p.goexit)=true/\e=.panicked ({v:=.iface 164 (.agg #[f.1,f.2]),recovered:=false}::i)
def bX(i w:nS)(j o l rb:Nat)(tv nv I:nU)(C:List BJ)(r:Except Bn Bd)(e:Ending)(w':nS):Prop:=
 Below i i w'/\match r with
 | .ok b=>e=nP (.tuple #[])/\∃P J t p,BQ i w' j o l rb P J I b C t p/\Aj (Dy j o l tv nv) w w'
 | .error f=>Rh f e
def lT{w0 w:nS}{i U T:Nat}{tv nv gv:nU}{b:Bd}{gs:List BJ}(h:BQ w0 w i U T rb tv nv gv b gs DT DN)(hr:DM w0 B rb mb tb l x dv kv sv rv rs D)(a4:rs.map Br.r=x.rules)
  (a5:x.marks.length=x.starts.length) (a6:∀t∈x.decl,t.s.length<=8192) (a8:∀t∈x.starts,t.s.length<=8192) (hT:b.T=[]) (a7:DJ x.marks<=100000) :
  () 123 #[(i,0)] w (bX w0 w i U T rb tv nv gv gs (G8 b (Gx x))):=by
 have a2:=Hd (h.alloc (nO #[(i,0)] 170));have a0:=Hd (Ah.new w 170 #[(i,0)]);have R:=Hd (Yg a2 hr a4 a5 a6 a8);have ae:=Hd ((Aj.refl (Dy i U T tv nv) w).alloc (nO #[(i,0)] 170));have HR:=Hd hr;have a3:=Hd a7;rw[hT]at R;have ai:∀(fn:Fn) (first cap:Array nU) (w:nS),(Instr.makeFunc fn first cap).run Tryz.prog w=.ok (.func fn first cap) w:=fun _ _ _ _=>rfl
 have aj:w.heap.size<(w.alloc (nO #[(i,0)] 170)).heap.size:=by simp
 have p0:=a0.cell 0;simp at p0;have HS:Hid (∀p b' aa a9 DT DN,BQ w0 p i U T rb aa a9 gv b' gs DT DN->Aj (Dy i U T tv nv) (w.alloc (nO #[(i,0)] 170)) p->nQ p (w,0)=nJ (nF (i,0))/\∀w',Below p p w'->() 165 #[(i,0)] w' fun e a1=>e=nP (nE nM (DJ x.marks))/\a1=w'):=Hd (fun p b' aa a9 DT DN ha hc=>by refine⟨(hc.Ap a0 (KM a2 a0 mT mT)).cell 0,fun w' I=>?_⟩;have h2:=ha.Ay (.AJ (X:=fun _=>False) I) (fun _ _=>id);exact iK (HR.later h2.below) h2.cells.1)
 clear h hr a5 a6 a8 hT a7 a4;cases P:BI (leftOf x) (BY x) x.decl [] with
 | error f=>
  rw[P]at R;have j:Hid (G8 b (Gx x)=.error (if DJ x.marks<=8192/\DJ x.marks<f.2 then(8,DJ x.marks) else f)):=Hd (by unfold Gx;rw[P];simp only;split<;>rfl);clear P
  go_enter_defers func123,ntmps123
  go_wp2_with (go_at_call 167;refine R.mono ?_;intro e p C;obtain⟨b2,ah,ag,ad,ab,z1,z2,C⟩:=C;have C:e=_:=C;subst C)
  obtain⟨y1,y2⟩:=HS _ _ _ _ _ _ z1 z2;refine leaves_cons (f:=164) (args:=#[(w,0)]) mV (by simp[go_sem]) ?_;refine(Wm y1 a3 y2).mono ?_;rintro e u' a1 ⟨rfl,I,he⟩;subst he;have J:=(z1.Ay (.AJ (X:=fun _=>False) I) (fun _ _=>id)).below;by_cases o:DJ x.marks<=8192/\DJ x.marks<f.2
  ·rw[if_pos o]
   rw[if_pos o]at j;simp only[raised,Leaves];refine⟨J,?_⟩;rw[j.out];exact⟨_,rfl,rfl⟩
  ·rw[if_neg o]
   rw[if_neg o]at j;simp only[raised,Leaves];refine⟨J,?_⟩;rw[j.out];exact⟨_,rfl,rfl⟩
 | ok af=>
  rw[P]at R;have j:Hid (G8 b (Gx x)=if DJ x.marks<=8192 then .error (8,DJ x.marks) else .ok {b with T:=af}):=Hd (by unfold Gx;rw[P];simp only;split<;>rfl);clear P
  go_enter_defers func123,ntmps123
  go_wp2_with (go_at_call 167;refine R.mono ?_;intro e p C;obtain⟨b2,ah,ag,ad,ab,z1,z2,rfl,rfl⟩:=C)
  obtain⟨y1,y2⟩:=HS _ _ _ _ _ _ z1 z2;refine leaves_cons (f:=164) (args:=#[(w,0)]) mV (by simp[go_sem]) ?_;refine(ZE y1 a3 y2).mono ?_;rintro e u' a1 ⟨rfl,I,he⟩;subst he;have J:=(z1.Ay (.AJ (X:=fun _=>False) I) (fun _ _=>id))
  by_cases o:DJ x.marks<=8192
  ·rw[if_pos o]
   rw[if_pos o]at j;simp only[raised,Leaves];refine⟨J.below,?_⟩;rw[j.out];exact⟨_,rfl,rfl⟩
  ·rw[if_neg o]
   rw[if_neg o]at j;simp only[settle,Leaves];refine⟨_,results_none rfl _ _ _,J.below,?_⟩;rw[j.out];exact⟨rfl,_,_,_,_,J,(ae.next z2).next (.AJ I)⟩
end
section
open Go.RowKit Go.Proofs.Tryz Go.Maps
structure Bt where
 left:Nat
 v:nU
 r:List Nat
def Bt.cells(q:Bt):List nU:=[nE nM q.left,q.v]
def Bt.g(q:Bt):Nat×List Nat:=(q.left,q.r)
def Bt.Np(q:Bt):q.cells.length=2:=rfl
def eN:El Tryz.prog 56 145 2 32:=El.of (z:=.agg #[nE nM 0,nC nK 0 0]) underlying56 mU rfl mT
structure DU(w0 w:nS)(bb:Nat)(p1 p2 p3 tv nv gv Rv:nU)(b:Bd)(gs:List BJ)(R:List Bt)(st:Int):Prop where
 below:Below w0 w0 w
 Ap:Ah w bb 173 #[p1,p2,p3,tv,nv,Rv,st,gv]
 ft:w.ownsRow w0 9 1 tv b.T.length (b.T.map Nv)
 fn:w.ownsRow w0 9 1 nv b.N.length (b.N.map Nv)
 fg:w.ownsRow w0 55 1 gv gs.length (gs.map BJ.v)
 rows:∀q∈gs,w.ownsRow w0 9 1 q.v q.l.length (q.l.map Nv)
 fR:w.ownsRow w0 145 2 Rv R.length (R.flatMap Bt.cells)
 IB:∀q∈R,w.ownsRow w0 3 1 q.v q.r.length (q.r.map Mark)
 names:gs.map BJ.l=b.R
 b0:w0.heap.size<=bb
 lt:b.T.length<=120
 ln:b.N.length<=120
 lr:b.R.length<=300
def DU.of{w0 w:nS}{bb j i:Nat}{tv nv gv:nU}{b:Bd}{gs:List BJ}{o l:DataW Unit}(h:BQ w0 w bb j i rb tv nv gv b gs o l):DU w0 w bb (rb,0) (.map (nJ j)) (.map (nJ i)) tv nv gv (nC nK 0 0) b gs [] 0:=
 ⟨h.below,h.Ap,h.ft,h.fn,h.fg,h.rows,World.ownsRow_nil _ _ _ _,(by simp),h.names,h.b0.1,h.lt,h.ln,h.lr⟩
namespace DU
variable {w0 w:nS} {bb:Nat} {p1 p2 p3 tv nv gv Rv:nU} {b:Bd} {gs:List BJ} {R:List Bt} {st:Int}
def later(h:DU w0 w bb p1 p2 p3 tv nv gv Rv b gs R st)(l:Below w w w'):DU w0 w' bb p1 p2 p3 tv nv gv Rv b gs R st:=by have i:Aj (fun _=>False) w w':=.AJ l;exact⟨h.below.trans (l.mono h.below.size),i.Ap h.Ap id,i.own h.ft (fun _ _=>id),i.own h.fn (fun _ _=>id),i.own h.fg (fun _ _=>id),fun q j=>i.own (h.rows q j) (fun _ _=>id),i.own h.fR (fun _ _=>id),fun q j=>i.own (h.IB q j) (fun _ _=>id),h.names,h.b0,h.lt,h.ln,h.lr⟩
def drew(h:DU w0 w bb p1 p2 p3 tv nv gv Rv b gs R st):DU w0 w.drew bb p1 p2 p3 tv nv gv Rv b gs R st:=h.later (ID w)
def cells(h:DU w0 w bb p1 p2 p3 tv nv gv Rv b gs R st):nQ w (bb,0)=nJ p1/\nQ w (bb,3)=nJ tv/\nQ w (bb,4)=nJ nv/\nQ w (bb,5)=nJ Rv/\nQ w (bb,6)=nJ (nE nM st)/\nQ w (bb,7)=nJ gv/\bb<w.heap.size:=
 ⟨h.Ap.cell 0,h.Ap.cell 3,h.Ap.cell 4,h.Ap.cell 5,h.Ap.cell 6,h.Ap.cell 7,h.Ap.lt⟩
def find(h:DU w0 w bb p1 p2 p3 tv nv gv Rv b gs R st)(s:AM):() 126 #[.agg #[tv,nv,Rv,st],nH (str s)] w fun e w'=>e=nP (nE nM (B6 b.T b.N s))/\Below w w w':=
 YH h.ft h.fn h.lt h.ln s
def app(h:DU w0 w bb p1 p2 p3 tv nv gv Rv b gs R st){q:Bt}(I:w.ownsRow w0 3 1 q.v q.r.length (q.r.map Mark))
  (ho:w2.ownsRow w0 145 2 (nC A2 (R.length+1) c2) (R.length+1) (R.flatMap Bt.cells++q.cells))
  (hg:(w.alloc o).grownBy w2 Rv.ownBlock/\((Value.slice A2 (R.length+1) c2).ownBlock=Rv.ownBlock\/(Value.slice A2 (R.length+1) c2).ownBlock=nJ (w.alloc o).heap.size)) :
  DU w0 (w2.setCell (bb,5) (nC A2 (R.length+1) c2)) bb p1 p2 p3 tv nv gv (nC A2 (R.length+1) c2) b gs (R++[q]) st/\Aj (fun k=>Rv.ownBlock=nJ k\/k=bb) w (w2.setCell (bb,5) (nC A2 (R.length+1) c2)):=by
 have U:Aj (fun k=>Rv.ownBlock=nJ k) w w2:=((Aj.refl _ w).alloc o).next (.Cy hg.1);have t:Aj (fun k=>Rv.ownBlock=nJ k\/k=bb) w (w2.setCell (bb,5) (nC A2 (R.length+1) c2)):=(U.mono (fun a1 hi=>.inl hi)).set (p:=⟨bb,5,nK⟩) (.inr (.inr rfl)) _;have T:¬Rv.ownBlock=nJ bb:=CB h.fR h.Ap mT;have a0:=h.Ap.lt;have i:∀{e:TypeId} {n:Nat} {v:nU} {P:List nU},w.ownsRow w0 e 1 v n P->e≠145->e≠173->(w2.setCell (bb,5) (nC A2 (R.length+1) c2)).ownsRow w0 e 1 v n P:=by
  intro e n v P J h1 h2;refine t.own J ?_;rintro k C (l|rfl)
  ·exact Gt J h.fR h1 k C l
  ·exact CB J h.Ap h2 C
 refine⟨⟨?_,by simpa using(U.Ap h.Ap T).AW 5 (nC A2 (R.length+1) c2),i h.ft mT mT,i h.fn mT mT,i h.fg mT mT,fun q I=>i (h.rows q I) mT mT,?_,?_,h.names,h.b0,h.lt,h.ln,h.lr⟩,t⟩
 ·refine h.below.trans (t.below h.below.size ?_)
  rintro k C (l|l)
  ·have:=(B0 h.fR k l).1;omega
  ·have:=h.b0;omega
 ·rw[show (R++[q]).length=R.length+1 by simp,List.flatMap_append]
  refine Ee (by simpa using ho) ?_ _;intro e;rcases hg.2 with p|p
  ·exact T (p▸e)
  ·rw[p]at e;injection e with e;simp at e;omega
 ·intro u j
  rcases mA.1 j with j|j
  ·exact i (h.IB u j) mT mT
  ·rw[mS.1 j];exact i I mT mT
def start(h:DU w0 w bb p1 p2 p3 tv nv gv Rv b gs R st)(s:Int):DU w0 (w.setCell (bb,6) s) bb p1 p2 p3 tv nv gv Rv b gs R s/\Aj (fun k=>k=bb) w (w.setCell (bb,6) s):=by
 have j:Aj (fun k=>k=bb) w (w.setCell (bb,6) s):=(Aj.refl (fun k=>k=bb) w).set (p:=⟨bb,6,nK⟩) (.inr rfl) _;have i:∀{e:TypeId} {o n:Nat} {v:nU} {p:List nU},w.ownsRow w0 e o v n p->e≠173->(w.setCell (bb,6) s).ownsRow w0 e o v n p:=by intro e o n v p C I;refine j.own C ?_;rintro k t rfl;exact CB C h.Ap I t
 refine⟨⟨?_,by simpa using h.Ap.AW 6 s,i h.ft mT,i h.fn mT,i h.fg mT,fun q l=>i (h.rows q l) mT,i h.fR mT,fun q l=>i (h.IB q l) mT,h.names,h.b0,h.lt,h.ln,h.lr⟩,j⟩;refine h.below.trans (j.below h.below.size ?_);rintro k t J;have:=h.b0;omega
end DU
structure Jc(wi:nS)(xb left:Nat)(xv:nU)(done:List Nat)(wr:nS):Prop where
 below:Below wi wi wr
 box:Ah wr xb 145 #[left,xv]
 own:wr.ownsRow wi 3 1 xv done.length (done.map Mark)
 hx:wi.heap.size<=xb
namespace Jc
variable {wi wr:nS} {xb left:Nat} {xv:nU} {done:List Nat}
def later(h:Jc wi xb left xv done wr)(i:Below wr wr w'):Jc wi xb left xv done w':=by have j:Aj (fun _=>False) wr w':=.AJ i;exact⟨h.below.trans (i.mono h.below.size),j.Ap h.box id,j.own h.own (fun _ _=>id),h.hx⟩
def app(h:Jc wi xb left xv done wr)
  (P:w2.ownsRow wi 3 1 (nC A2 (done.length+1) c2) (done.length+1) (done.map Mark++[Mark s]))
  (t:(wr.alloc o).grownBy w2 xv.ownBlock/\((Value.slice A2 (done.length+1) c2).ownBlock=xv.ownBlock\/(Value.slice A2 (done.length+1) c2).ownBlock=nJ (wr.alloc o).heap.size)) :
  Jc wi xb left (nC A2 (done.length+1) c2) (done++[s]) (w2.setCell (xb,1) (nC A2 (done.length+1) c2)):=by
 have p:Aj (fun k=>xv.ownBlock=nJ k) wr w2:=((Aj.refl _ wr).alloc o).next (.Cy t.1);have I:Aj (fun k=>xv.ownBlock=nJ k\/k=xb) wr (w2.setCell (xb,1) (nC A2 (done.length+1) c2)):=(p.mono (fun i J=>.inl J)).set (p:=⟨xb,1,nK⟩) (.inr (.inr rfl)) _;have l:¬xv.ownBlock=nJ xb:=CB h.own h.box mT;have U:=h.box.lt;refine⟨?_,by simpa using(p.Ap h.box l).AW 1 (nC A2 (done.length+1) c2),?_,h.hx⟩
 ·refine h.below.trans (I.below h.below.size ?_)
  rintro k T (C|C)
  ·have:=(B0 h.own k C).1;omega
  ·have:=h.hx;omega
 ·rw[show (done++[s]).length=done.length+1 by simp,Bz]
  refine Ee P ?_ _;intro e;rcases t.2 with j|j
  ·exact l (j▸e)
  ·rw[j]at e;injection e with e;simp at e;omega
end Jc
def LN(R:List (List AM)):Prop:=∀r∈R,r≠[]/\r.length<=100001
theorem Uy{o:AM->Bool}:∀(l:List Tk) (k:Nat) {b j:Bd},DV o b k l=.ok j->j.R=b.R
 | [],k,b,j,h=>by injection h with h;rw[h]
 | t::l,k,b,j,h=>by
  unfold DV at h;cases i:D9 o b t k with
  | error f=>rw[i]at h;cases h
  | ok p=>
   rw[i]at h;rw[Uy l (k+1) h];unfold D9 at i;split at i
   ·cases i
   split at i
   ·injection i with i;rw[<-i]
   split at i
   ·split at i
    ·cases i
    ·injection i with i;rw[<-i]
   split at i
   ·injection i with i;rw[<-i]
   ·cases i
theorem eD{o:AM->Bool}{b l:Bd}{left:AM}{s:PS}(t:s.l.length<=100000)(h0:LN b.R)(h:DY o b left s=.ok l):LN l.R:=by
 unfold DY at h;split at h
 ·cases h
 cases j:DV o b 0 s.l with
 | error f=>rw[j]at h;cases h
 | ok p=>
  rw[j]at h;simp only at h;split at h
  ·cases h
  ·injection h with h
   rw[<-h];intro r i;rcases mA.1 i with i|i
   ·rw[Uy _ _ j]at i;exact h0 r i
   ·rw[mS.1 i];simp;omega
def ZF{D:Nat}{b i:Bd}{t:Tk}(h:ET D b t=.ok i):i.R=b.R:=by
 unfold ET at h;split at h
 ·cases h
 split at h
 ·injection h with h;rw[<-h]
 split at h
 ·cases h
 ·injection h with h;rw[<-h]
end
variable{b:Bd}{v:nU}
section
open Go.RowKit Go.Proofs.Tryz Go.Maps
structure Has(w0 w:nS)(tv nv Rv:nU)(g:PG)(R:List Bt):Prop where
 ft:w.ownsRow w0 9 1 tv g.T.length (g.T.map Nv)
 fn:w.ownsRow w0 9 1 nv g.N.length (g.N.map Nv)
 fR:w.ownsRow w0 145 2 Rv R.length (R.flatMap Bt.cells)
 IB:∀q∈R,w.ownsRow w0 3 1 q.v q.r.length (q.r.map Mark)
 r:R.map Bt.g=g.R
def PW(i:nS)(r:Except Bn PG)(e:Ending)(w':nS):Prop:=
 Below i i w'/\match r with
 | .ok g=>∃o l j R,e=nP (.agg #[o,l,j,g.s])/\Has i w' o l j g R
 | .error f=>Rh f e
def Wj{w:nS}{g:Nat}{l:List Br}{q:Br}(h:w.ownsRow B 223 4 (nC (g,0) l.length c) l.length (l.flatMap Br.cells))(P:l[k]?=nJ q) :
  nQ w (g,k*4)=nJ (nE nM q.left.k)/\nQ w (g,k*4+1)=nJ (nH (str q.left.s))/\nQ w (g,k*4+2)=nJ (nE nM q.left.p)/\nQ w (g,k*4+3)=nJ q.v:=by
 obtain⟨J,R⟩:=sG.1 P;have i:∀j,j<4->(l.flatMap Br.cells)[k*4+j]?=(Br.cells q)[j]?:=fun j I=>by rw[CR Br.cells 4 (fun _=>rfl) l k j J I,R]
 have o:=Bb h (k*4) mR;have p:=Bb h (k*4+1) mR;have t:=Bb h (k*4+2) mR;have C:=Bb h (k*4+3) mR;rw[o,p,t,C,i 1 mR,i 2 mR,i 3 mR];have:=i 0 mR;rw[Nat.add_zero]at this;rw[this];exact⟨rfl,rfl,rfl,rfl⟩
def fO{w:nS}{g:Nat}{l:List GS}{q:GS}(h:w.ownsRow B 226 2 (nC (g,0) l.length c) l.length (l.flatMap GS.cells))(I:l[k]?=nJ q) :
  nQ w (g,k*2)=nJ q.v/\nQ w (g,k*2+1)=nJ (nE nM q.s.p):=by
 obtain⟨C,J⟩:=sG.1 I;have i:∀j,j<2->(l.flatMap GS.cells)[k*2+j]?=(GS.cells q)[j]?:=fun j t=>by rw[CR GS.cells 2 (fun _=>rfl) l k j C t,J]
 have o:=Bb h (k*2) mR;have p:=Bb h (k*2+1) mR;rw[o,p,i 1 mR];have:=i 0 mR;rw[Nat.add_zero]at this;rw[this];exact⟨rfl,rfl⟩
def RP{i:Type}{l:List i}{a:i}(h:l[k]?=nJ a):l.drop k=a::l.drop (k+1):=by obtain⟨j,e⟩:=sG.1 h;rw[List.drop_eq_getElem_cons j,e]
def aU{w:nS}{g:Nat}(h:w.ownsRow B e s (nC (g,0) n c) n xs):n<=c/\c<=9223372036854775807:=by
 rcases Bg h with⟨i,_⟩|⟨b,c2,i,_,_,j,l,_⟩
 ·cases i
 ·cases i
  unfold maxLen at l;exact⟨j,mR⟩
def ZG:Array nU:=#[nC nK 0 0,nC nK 0 0,nC nK 0 0,nE nM 0]
def Pd{U w:nS}{i o l g:Nat}{tv nv J:nU}{I:List BJ}{p:DataW Unit}(h:BQ U w i o l rb tv nv J b I C p)(T:Aj (Dy i o l tv nv) w w')(j:Ah w g t cs)(P:t≠173)(R:t≠9):Ah w' g t cs:=T.Ap j (KM h j P R)
def Rr{w0 w:nS}{i p o g:Nat}{tv nv j:nU}{J:List BJ}{I:DataW Unit}(h:BQ w0 w i p o rb tv nv j b J I C)(U:Aj (O3 i p o tv nv j) w w')(l:Ah w g t cs)(P:t≠173)(R:t≠9)(T:t≠55):Ah w' g t cs:=U.Ap l (WG h l P R T)
def DU.last{j w:nS}{P i:Nat}{p1 p2 p3 tv nv U o:nU}{T:List BJ}{R:List Bt}{st:Int}{g:PG}(h:DU j w P p1 p2 p3 tv nv U o b T R st)(hg:Ah w i 58 ZG)(a0:j.heap.size<=i)(hT:g.T=b.T)(hN:g.N=b.N)(hR:R.map Bt.g=g.R)(hs:(g.s:Int)=st)(u0 u1 u2 u3:nU) :
  PW j (.ok g) (nP (.agg #[tv,nv,o,nE nM st])) ((((w.setCell ⟨i,0,nK⟩ u0).setCell ⟨i,1,nK⟩ u1).setCell ⟨i,2,nK⟩ u2).setCell ⟨i,3,nK⟩ u3):=by
 have C:Aj (·=i) w ((((w.setCell ⟨i,0,nK⟩ u0).setCell ⟨i,1,nK⟩ u1).setCell ⟨i,2,nK⟩ u2).setCell ⟨i,3,nK⟩ u3):=((((Aj.refl (·=i) w).set (p:=⟨i,0,nK⟩) (.inr rfl) _).set (p:=⟨i,1,nK⟩) (.inr rfl) _).set (p:=⟨i,2,nK⟩) (.inr rfl) _).set (p:=⟨i,3,nK⟩) (.inr rfl) _;have l:∀{e:TypeId} {p n:Nat} {v:nU} {t:List nU},w.ownsRow j.heap.size e p v n t->e≠58->World.ownsRow ((((w.setCell ⟨i,0,nK⟩ u0).setCell ⟨i,1,nK⟩ u1).setCell ⟨i,2,nK⟩ u2).setCell ⟨i,3,nK⟩ u3) j.heap.size e p v n t:=by intro e p n v t J he;refine C.own J ?_;rintro k I rfl;exact CB J hg he I
 refine⟨h.below.trans (C.below h.below.size (fun k I e=>by omega)),tv,nv,o,R,by rw[hs],⟨?_,?_,l h.fR mT,fun q hq=>l (h.IB q hq) mT,hR⟩⟩
 ·rw[hT];exact l h.ft mT
 ·rw[hN];exact l h.fn mT
def mu{I w:nS}{bb tm nm:Nat}{tv nv gv:nU}(h:BQ I w bb tm nm rb tv nv gv ⟨[],[],[]⟩ [] DT DN)(P:DM I B rb mb tb l x dv kv sv rv rs D)(ck:rs.map Br.r=x.rules)
  (ea:x.marks.length=x.starts.length) (ec:∀t∈x.decl,t.s.length<=8192) (ef:∀t∈x.starts,t.s.length<=8192) (ed:DJ x.marks<=100000)
  (ee:∀r∈rs,r.left.s.length<=8192/\∀q∈r.ss,(∀t∈q.s.l,t.s.length<=8192)/\q.s.l.length<=100000) :
  () 87 #[(bb,0)] w (PW I (Gn x)):=by
 have bj:=Hd (h.alloc (nO ZG 58));have db:=Hd (Ah.new w 58 ZG);have an:=Hd (lT bj P ck ea ec ef rfl ed);have eh:=h.below.size;have gl:w.heap.size<(w.alloc (nO ZG 58)).heap.size:=by simp
 unfold ZG at an;have d5:Hid (∀o,Below I I o->nQ o (rb,3)=nJ sv/\nQ o (rb,4)=nJ rv):=Hd (fun o hb=>by obtain⟨_,_,a3,a4,_,_⟩:=(P.later hb).By.A8.cells;exact⟨a3,a4⟩)
 obtain⟨As,cs,ah⟩:=BH P.By.starts;obtain⟨Ar,cr,g1⟩:=BH P.rules;have f7:Hid (∀k q,rs[k]?=nJ q->∃g c,rv=nC (nJ ⟨g,0,nK⟩) rs.length c/\∀o,Below I I o->nQ o ⟨g,k*4,nK⟩=nJ (nE nM q.left.k)/\nQ o ⟨g,k*4+1,nK⟩=nJ (nH (str q.left.s))/\nQ o ⟨g,k*4+2,nK⟩=nJ (nE nM q.left.p)/\nQ o ⟨g,k*4+3,nK⟩=nJ q.v):=Hd (fun k t ht=>by obtain⟨hk,_⟩:=sG.1 ht;obtain⟨g,c,hv⟩:=Jb P.rules mR;refine⟨g,c,hv,fun o b1=>?_⟩;have p:=(Aj.AJ (X:=fun _=>False) b1).own P.rules (fun _ _=>id);rw[hv]at p;exact Wj p ht)
 have fb:Hid (∀q∈rs,(∃A c,q.v=nC A q.ss.length c)/\q.ss.length<=9223372036854775807/\∀j s,q.ss[j]?=nJ s->∃g c,q.v=nC (nJ ⟨g,0,nK⟩) q.ss.length c/\∀o,Below I I o->nQ o ⟨g,j*2,nK⟩=nJ s.v/\nQ o ⟨g,j*2+1,nK⟩=nJ (nE nM s.s.p)):=Hd (fun q hq=>by have bc:=(P.Hn q hq).1;refine⟨BH bc,(by have:=UO bc;unfold maxLen at this;omega),fun j s R=>?_⟩;obtain⟨hk,_⟩:=sG.1 R;obtain⟨g,c,hv⟩:=Jb bc mR;refine⟨g,c,hv,fun o b1=>?_⟩;have p:=(Aj.AJ (X:=fun _=>False) b1).own bc (fun _ _=>id);rw[hv]at p;exact fO p R)
 have fd:Hid ((x.starts=[]/\x.starts.length=0)\/∃st r,x.starts=st::r/\(0:Int)<(x.starts.length:Int)/\∃g c,sv=nC (nJ ⟨g,0,nK⟩) x.starts.length c/\∀o,Below I I o->nQ o ⟨g,1,nK⟩=nJ (nH (str st.s))):=Hd (by
  cases R:x.starts with
  | nil=>exact .inl ⟨rfl,rfl⟩
  | cons st r=>
   have fz:0<x.starts.length:=by rw[R];simp
   obtain⟨g,c,hv⟩:=Jb P.By.starts fz;refine .inr ⟨st,r,rfl,by rw[<-R];omega,g,c,by rw[<-R];exact hv,fun o b1=>?_⟩;have p:=(Aj.AJ (X:=fun _=>False) b1).own P.By.starts (fun _ _=>id);rw[hv]at p;exact(NZ (k:=0) p (by rw[R];rfl)).2.1)
 have gr:rs.length<=100000:=by have:=P.lr;omega
 have gs:x.starts.length<=100000:=by have:=P.By.ls;omega
 have HR:=Hd P;have HX:=Hd ck;have fc:=Hd ee;clear h P ck ea ec ef ed ee;subst ah;subst g1;generalize e4:rs.length=nr at *;generalize e6:x.starts.length=ns at *;have di:=Hd e4;clear e4 e6;cases hh:Gx x with
 | error f=>
  have HE:Hid (Gn x=.error f):=Hd (by unfold Gn;rw[hh]);rw[hh]at an;clear hh;go_enter func87,ntmps87
  go_wp2_with (go_at_call 123;refine an.mono ?_;rintro e w1 ⟨dr,h5,fy,rfl⟩)
  refine⟨rfl,dr,?_⟩;rw[HE.out];exact⟨_,fy,rfl⟩
 | ok T=>
  rw[hh]at an;have b5:Hid (∀r,Dg (leftOf x) T.length ⟨T,[],[]⟩ x.rules=r->Gn x=match r with | .error f=>.error f | .ok b=>.ok (Hc x b)):=Hd (fun r P=>by unfold Gn;rw[hh];simp only;rw[P];cases r<;>rfl);clear hh;go_enter func87,ntmps87
  go_wp2_with (
         go_at_call 123;refine an.mono ?_;rintro e w1 ⟨dr,rfl,g9,ei,d3,d1,U,z2⟩
         have au:Hid (BQ I w1 bb tm nm rb g9 ei gv ⟨T,[],[]⟩ [] d3 d1):=Hd U;have dc:Hid (Ah w1 w.heap.size 58 ZG):=Hd (Pd bj z2 db mT mT);have gm:=dc.lt;obtain⟨c0,c1,c2,c3,c4,c7,aa⟩:=au.cells;obtain⟨k3,k4⟩:=d5 w1 au.below;obtain⟨At,ct,g4⟩:=BH au.ft;subst g4;clear U z2)
  generalize w.heap.size=g0 at *;clear c1 c2 c3 c4 c7 an db bj;have gi:T.length<=120:=au.lt;go_loopw [29] (fun aj wr=>∃(k:Nat) (i:Bd) (cv cn c8:nU) (a7:List BJ) (d2 cz:DataW Unit),k<=nr/\aj=nE nM k/\Hid (BQ I wr bb tm nm rb cv cn c8 i a7 d2 cz)/\Hid (Ah wr g0 58 ZG)/\Hid (Dg (leftOf x) T.length ⟨T,[],[]⟩ x.rules=Dg (leftOf x) T.length i ((rs.drop k).map Br.r))/\Hid (LN i.R)) (fun aj _=>nr-(intOf aj).toNat)
  case atStart=>exact⟨0,⟨T,[],[]⟩,_,ei,gv,[],d3,d1,A0 _,rfl,au,dc,Hd (by rw[<-HX.out];rfl),Hd (fun r P=>by cases P)⟩
  case round=>
   rename nS=>w9
   obtain⟨k,i,cv,cn,c8,a7,d2,cz,hk,rfl,HA,HG,HY,HN⟩:=hrel;by_cases az:k<nr
   ·obtain⟨q,hq⟩:∃q,rs[k]?=nJ q:=⟨_,eG (by rw[di.out];exact az)⟩
    obtain⟨g,c,aq,ds⟩:=f7 k q hq;obtain⟨e0,e1,e2,e3⟩:=ds w9 HA.below;cases aq
    have bd:=mG hq;have bv:Hid (Dg (leftOf x) T.length ⟨T,[],[]⟩ x.rules=Dg (leftOf x) T.length i (q.r::(rs.drop (k+1)).map Br.r)):=Hd (by rw[HY.out,RP hq];rfl);obtain⟨⟨Aq,cq,cj⟩,gw,e7⟩:=fb q bd;have f5:=Hd (fun j s R=>by obtain⟨g,c,h1,p⟩:=e7 j s R;rw[cj]at h1;exact(⟨g,c,h1,p⟩:∃g c,Value.slice Aq q.ss.length cq=nC (nJ ⟨g,0,nK⟩) q.ss.length c/\∀o,Below I I o->nQ o ⟨g,j*2,nK⟩=nJ s.v/\nQ o ⟨g,j*2+1,nK⟩=nJ (nE nM s.s.p)));rw[cj]at e3;have dd:=Hd (HR.Hn q bd);obtain⟨ch,e8⟩:=fc q bd
    have bq:=Hd e8;have ff:=Hd (Ah.new w9 223 #[q.left.k,nH (str q.left.s),q.left.p,(nC Aq q.ss.length cq)]);have bk:=Hd (HA.alloc (nO #[q.left.k,nH (str q.left.s),q.left.p,(nC Aq q.ss.length cq)] 223));have eu:Hid (Ah (w9.alloc (nO #[q.left.k,nH (str q.left.s),q.left.p,(nC Aq q.ss.length cq)] 223)) g0 58 ZG):=Hd (HG.alloc _);have b9:=Hd (fJ bk q.left ch T.length (T.length:Int) rfl);have ca:=HA.cells;obtain⟨d0,_,_,_,_,_,ca⟩:=ca;clear hq ds e7 e8 bd cj
    cases af:ET T.length i q.left with
    | error f=>
     have HE:=Hd (b5 (.error f) (by rw[bv.out,Dg,JY,show q.r.left=q.left from rfl,af]));rw[af]at b9;clear af ch;go_wp2_with (go_at_call 124;refine b9.mono ?_;intro e w2 hx;obtain⟨ab,hx⟩:=hx;have hx:e=_:=hx;subst hx)
     refine⟨rfl,ab,?_⟩;rw[HE.out];exact⟨_,rfl,rfl⟩
    | ok b2=>
     have fi:Hid (Dg (leftOf x) T.length ⟨T,[],[]⟩ x.rules=match Fl (leftOf x) q.left.s b2 (q.ss.map GS.s) with | .error e=>.error e | .ok i=>Dg (leftOf x) T.length i ((rs.drop (k+1)).map Br.r)):=Hd (by rw[bv.out,Dg,JY,show q.r.left=q.left from rfl,af];have e1:q.r.GL=q.ss.map GS.s:=rfl;simp only[e1];cases Fl (leftOf x) q.left.s b2 (q.ss.map GS.s)<;>rfl)
     have ey:Hid (LN b2.R):=Hd (by rw[ZF af];exact HN);rw[af]at b9;clear af ch bv;go_wp2_with (
             go_at_call 124;refine b9.mono ?_;intro e w2 hx;obtain⟨ab,rfl,ga,g7,em,ek,U,z2,z3,z4⟩:=hx
             have eo:=Hd U;have ak:=Hd (Pd bk z2 eu mT mT);have ba:=Hd (Pd bk z2 ff mT mT);have x3:=ba.cell 3;simp at x3;have cm:=ba.lt;clear ab U z2 z3 z4)
     have ej:=ba.cell 1;simp at ej;generalize w9.heap.size=xb at *;generalize dz:q.ss.length=nq at *;have dh:=Hd dz;clear dz x3 ej e0 e1 e2 e3 d0 c0 k3 k4 cm;go_loopw [41] (fun j wy=>∃(m:Nat) (b3:Bd) (cy cp c9:nU) (bz:List BJ) (bi bh:DataW Unit),m<=nq/\j=nE nM m/\Hid (BQ I wy bb tm nm rb cy cp c9 b3 bz bi bh)/\Hid (Ah wy g0 58 ZG)/\Hid (Ah wy xb 223 #[q.left.k,nH (str q.left.s),q.left.p,nC Aq nq cq])/\Hid (Dg (leftOf x) T.length ⟨T,[],[]⟩ x.rules=match Fl (leftOf x) q.left.s b3 ((q.ss.drop m).map GS.s) with | .error e=>.error e | .ok i=>Dg (leftOf x) T.length i ((rs.drop (k+1)).map Br.r))/\Hid (LN b3.R)) (fun j _=>nq-(intOf j).toNat)
     case atStart=>exact⟨0,b2,ga,g7,c8,a7,em,ek,A0 _,rfl,eo,ak,ba,fi,ey⟩
     case round=>
      obtain⟨m,b3,cy,cp,c9,bz,bi,bh,hm,rfl,bl,a0,bu,bw,de⟩:=hrel;by_cases cf:m<nq
      ·obtain⟨s,R⟩:∃s,q.ss[m]?=nJ s:=⟨_,eG (by rw[dh.out];exact cf)⟩
       obtain⟨g2,c2,fw,dt⟩:=f5 m s R;obtain⟨s0,s1⟩:=dt wr bl.below;cases fw
       have ar:=mG R;obtain⟨bf,bx,ah⟩:=BH (show I.ownsRow B 216 3 s.v s.s.l.length (s.s.l.flatMap Tk.cells) from dd.2 s ar);rw[ah]at s0;have fg:=Hd (bu.alloc (nO #[nC bf s.s.l.length bx,s.s.p] 226));have b8:=Hd (a0.alloc (nO #[nC bf s.s.l.length bx,s.s.p] 226));have bm:=Hd (bl.alloc (nO #[nC bf s.s.l.length bx,s.s.p] 226));have av:=Hd (Xz bm HR HX q.left.s s (dd.2 s ar) (bq s ar).1 (bq s ar).2);rw[ah]at av;have x1:=bu.cell 1
       simp at x1;have cm:=bu.lt;have d6:=Hd (RP R);have fa:=Hd (fun b4 (h:DY (leftOf x) b3 q.left.s s.s=.ok b4)=>eD (bq s ar).2 de h);clear R dt ar ah;generalize s.s.l.length=h4 at *;cases ag:DY (leftOf x) b3 q.left.s s.s with
       | error f=>
        have HE:=Hd (b5 (.error f) (by rw[bw.out,d6.out,List.map_cons,Fl,ag]));rw[ag]at av;clear ag;go_wp2_with (go_at_call 125;refine av.mono ?_;intro e w2 hx;obtain⟨ab,hx⟩:=hx;have hx:e=_:=hx;subst hx)
        refine⟨rfl,ab,?_⟩;rw[HE.out];exact⟨_,rfl,rfl⟩
       | ok b4=>
        have fj:Hid (Dg (leftOf x) T.length ⟨T,[],[]⟩ x.rules=match Fl (leftOf x) q.left.s b4 ((q.ss.drop (m+1)).map GS.s) with | .error e=>.error e | .ok i=>Dg (leftOf x) T.length i ((rs.drop (k+1)).map Br.r)):=Hd (by rw[bw.out,d6.out,List.map_cons,Fl,ag]);have ez:=Hd (fa b4 ag);rw[ag]at av;clear ag;go_wp2_with (
                go_at_call 125;refine av.mono ?_;intro e w2 hx;obtain⟨ab,rfl,gb,g8,fq,fp,en,el,U,z2,_,_,_⟩:=hx
                have ep:=Hd U;have a2:=Hd (Rr bm z2 b8 mT mT mT);have fh:=Hd (Rr bm z2 fg mT mT mT);clear ab U z2)
        go_roundw
        case rel=>exact⟨m+1,b4,gb,g8,fq,fp,en,el,mR,mY,ep,a2,fh,fj,ez⟩
        case measure=>simp[intOf];omega
      ·obtain rfl:m=nq:=by omega
       have fk:Hid (Dg (leftOf x) T.length ⟨T,[],[]⟩ x.rules=Dg (leftOf x) T.length b3 ((rs.drop (k+1)).map Br.r)):=Hd (by rw[bw.out,List.drop_of_length_le (by have:=dh.out;omega)];rfl);go_wp2;go_roundw
       case rel=>exact⟨k+1,b3,cy,cp,c9,bz,bi,bh,mR,mY,bl,a0,fk,de⟩
       case measure=>simp[intOf];omega
   ·obtain rfl:k=nr:=by omega
    have HE:Hid (Gn x=.ok (Hc x i)):=Hd (b5 (.ok i) (by rw[HY.out,List.drop_of_length_le (by have:=di.out;omega)];rfl));have gq:a7.length<=300:=by have h1:=HA.names;have p:=HA.lr;rw[<-h1,lM]at p;exact p
    obtain⟨Ag,cg,aq⟩:=BH HA.fg;subst aq;have ev:=Hd (DU.of HA);obtain⟨d0,_,_,_,_,d7,ca⟩:=HA.cells;have f4:Hid (∀u∈a7,∃a r,u.l=a::r/\r.length<=100000):=Hd (fun u hu=>by
     have:=HN u.l (by rw[<-HA.names];exact List.mem_map_of_mem hu);cases hl:u.l with
     | nil=>exact absurd hl this.1
     | cons a r=>exact⟨a,r,rfl,by have p:=this.2;rw[hl]at p;simp at p;omega⟩)
    have dg:Hid (a7.map BJ.l=i.R):=Hd HA.names;generalize dy:a7.length=ng at *;have aw:=Hd dy;clear dy az HA HN b5;go_wp2;clear d0 d7 c0 k3 k4 aa;go_loopg [58] ng (fun n aj wx=>∃(k:Nat) (a1:List Bt) (Rv:nU),n=ng-k/\k<=ng/\aj=nE nM k/\Hid (DU I wx bb (rb,0) (.map (nJ tm)) (.map (nJ nm)) cv cn (nC Ag ng cg) Rv i a7 a1 0)/\Hid (Ah wx g0 58 ZG)/\Hid (a1.map Bt.g=(i.R.take k).map (GD i.T i.N)))
    case atStart=>exact⟨0,[],_,rfl,A0 _,rfl,ev,HG,Hd rfl⟩
    case round=>
     rename nS=>C
     obtain⟨k,a1,Rv,fv,hk,rfl,J,ak,bt⟩:=hrel;obtain⟨c0,c3,c4,c5,c6,c7,aa⟩:=J.cells;obtain⟨AR,cR,fs⟩:=BH J.fR;subst fs;by_cases az:k<ng
     ·obtain⟨u,hu⟩:∃u,a7[k]?=nJ u:=⟨_,eG (by rw[aw.out];exact az)⟩
      have be:=mG hu;obtain⟨a,ra,cl,gx⟩:=f4 u be;obtain⟨g,c,aq⟩:=Jb J.fg (by rw[aw.out];omega);rw[aw.out]at aq;cases aq
      have cc:=J.fg;rw[aw.out]at cc;have u0:=Bb cc k mR;rw[pG,hu]at u0;simp only[Option.map_some]at u0;have fe:=Hd (J.rows u be);have ai:=J.rows u be;rw[cl]at ai;obtain⟨gu,cu,eg⟩:=Jb ai mV;rw[eg]at u0 ai;have dn:Hid (∀o,Below C C o->nQ o (gu,0)=nJ (nH (str a))/\∀j s,ra[j]?=nJ s->nQ o (gu,1+j)=nJ (nH (str s))):=Hd (fun o hb=>by have p:=(Aj.AJ (X:=fun _=>False) hb).own ai (fun _ _=>id);refine⟨Bb p 0 mV,fun j s R=>?_⟩;obtain⟨hj,_⟩:=sG.1 R;have:=Bb p (1+j) mX;rw[this,Nat.add_comm];simp only[List.map_cons,List.getElem?_cons_succ,pG,R];rfl)
      have dx:=UO ai;obtain⟨du,fu⟩:=aU ai;have f8:Hid ((i.R.take (k+1)).map (GD i.T i.N)=(i.R.take k).map (GD i.T i.N)++[(B6 i.T i.N a,ra.map (B6 i.T i.N))]):=Hd (by
       have h1:i.R[k]?=nJ (a::ra):=by rw[<-dg.out,pG,hu];exact congrArg nJ cl
       obtain⟨cd,e⟩:=sG.1 h1;rw[List.take_succ_eq_append_getElem cd,e,Bz];rfl)
      have a5:=Hd J.drew;have d9:=Hd (a5.find a);have d4:=Hd ((J.later (AE C (nO #[nE nM 0,nC nK 0 0] 145))).drew);have da:=Hd (d4.find a);have dp:=Hd (Ah.new C 145 #[nE nM 0,nC nK 0 0]);obtain⟨v0,_⟩:=dn C (Below.refl _ _);have dw:=World.block_lt_of_cell? C _ v0;simp at dw;have e9:(a::ra).length=ra.length+1:=rfl;rw[e9]at u0 dx du;unfold maxLen at dx;have fx:(0:Int)<((ra.length+1:Nat):Int):=by omega
      clear ai hu be eg cl cc e9 fe;generalize e5:ra.length=na at *;have df:=Hd e5;clear e5;generalize hF:B6 i.T i.N a=F at *;go_upto_region 16 with fail
      go_cut [9,10] (fun uv xp wz=>uv=nC (gu,0) (na+1) cu/\∃xb:Nat,xp=(xb,0)/\Hid (Jc C xb F (nC nK 0 0) [] wz))
      case first=>
       go_region_law (
                go_simp;go_at_call 126;first
                | (
                 (with_reducible refine d9.out.mono ?_);rintro e wi ⟨rfl,a8⟩
                 have ax:Hid (Below C C wi):=Hd ((ID C).trans a8);clear a8)
                | (
                 (with_reducible refine da.out.mono ?_);rintro e wi ⟨rfl,a8⟩
                 have ax:Hid (Below C C wi):=Hd ((AE C _).trans (((ID _).trans a8).mono mV));have ay:Hid (Ah wi C.heap.size 145 #[nE nM 0,nC nK 0 0]):=Hd (dp.below ((ID _).trans a8) mV);have y0:=ay.cell 0;have y1:=ay.cell 1;have y2:=ay.frozen 0;have y3:=ay.frozen 1;simp at y0 y1;clear a8))
       all_goals (
        go_wp2_with fail
        go_meet
        first
          | exact⟨rfl,_,rfl,Hd ⟨ax.trans ((AE wi _).mono ax.size),Ah.new wi 145 #[F,nC nK 0 0],World.ownsRow_nil _ _ _ _,ax.size⟩⟩
          | exact⟨rfl,_,rfl,Hd ⟨(((Aj.AJ (X:=fun _=>False) ax).set (p:=⟨C.heap.size,0,nK⟩) (.inl (AF _)) _).set (p:=⟨C.heap.size,1,nK⟩) (.inl (AF _)) _).below (AF _) (fun _ _=>id),by simpa using(ay.AW 0 F).AW 1 (nC nK 0 0),World.ownsRow_nil _ _ _ _,AF _⟩⟩)
      case rest=>
       obtain⟨rfl,xb,rfl,dj⟩:=hcut;have gf:=Hd (J.later dj.below);clear c0 c3 c4 c5 c6 c7 aa v0 u0 d9 da d4 a5 dp;go_upto_region 17 with fail
       go_cut [9,72,73,74] (fun _ sw nw iw wy=>wy=wc/\nw=nE nM na/\iw=nE nM 0/\∃ad cw,sw=nC (nJ ad) na cw/\(0<na->ad=(gu,1)))
       case first=>
        go_wp2_with fail
        all_goals (
          go_wp2_with fail
          go_meet
          first
           | exact⟨rfl,rfl,rfl,_,_,rfl,fun _=>rfl⟩
           | exact⟨rfl,rfl,rfl,_,_,rfl,fun h=>by omega⟩)
       case rest=>
        obtain⟨rfl,rfl,rfl,ad,cw,rfl,dq⟩:=hcut;have er:=Hd dq;clear dq fx du fu dw;have g5:=J.below.size;have gh:a1.length<=300:=by have h1:=congrArg List.length bt;simp at h1;omega
        go_wp2;go_loopg [74] na (fun n aj wy=>∃(j:Nat) (done:List Nat) (xv:nU),n=na-j/\j<=na/\aj=nE nM j/\done.length=j/\Hid (Jc C xb F xv done wy)/\Hid (done=(ra.take j).map (B6 i.T i.N)))
        case atStart=>exact⟨0,[],_,rfl,A0 _,rfl,rfl,dj,Hd rfl⟩
        case round=>
          obtain⟨_,done,xv,gp,hj,rfl,rfl,a6,d8⟩:=hrel;have bn:=Hd (J.later a6.below);have gy:=a6.below.size;obtain⟨Ax,cx,g6⟩:=BH a6.own;subst g6;obtain⟨c0,c3,c4,c5,c6,c7,aa⟩:=bn.cells;have y0:=a6.box.cell 0;have y1:=a6.box.cell 1;have cm:=a6.box.lt;simp at y0 y1;by_cases cf:done.length<na
          ·obtain⟨t,ht⟩:∃t,ra[done.length]?=nJ t:=⟨_,eG (by rw[df.out];exact cf)⟩
           have e0:=(dn wr a6.below).2 done.length t ht;obtain rfl:=er mR;have et:Hid (done++[B6 i.T i.N t]=(ra.take (done.length+1)).map (B6 i.T i.N)):=Hd (by obtain⟨cd,e⟩:=sG.1 ht;have h1:=d8.out;rw[List.take_succ_eq_append_getElem cd,e,Bz,<-h1];rfl)
           have bo:=Hd (bn.drew.find t);have br:=Hd (a6.later (ID wr));clear ht;generalize gg:B6 i.T i.N t=F2 at *;go_wp2;go_region_law (first
            | (
              refine Fe Q7 (.tmp 79) (.tmp 86) ?_ ?_ (base:=C.heap.size) (n:=done.length) (m:=1) (N:=done.length+1) (v:=nC Ax done.length cx) (src:=nC (wi,0) 1 1) (xs:=done.map Mark) (news:=[nE nM F2]) ?_ ?_ ?_ ?_ ?_ ?_ ?_ ?_ ?_
              ·rfl
              ·rfl
              ·rfl
              ·rfl
              ·exact a9.own.alloc _
              ·exact Rj wi _
              ·rfl
              ·unfold maxLen;omega
              ·omega
              ·simp;omega
              intro A3 fo w3 r1 r2 r3;have HF:=Hd (a9.app (s:=F2) r1 r3);have hX:Aj (fun k=>(Value.slice Ax done.length cx).ownBlock=nJ k) wi w3:=((Aj.refl _ wi).alloc (nO #[F2] 3)).next (.Cy r3.1);have ae:=hX.Ap a9.box (CB a9.own a9.box mT);have U:=ae.cell 1;have zf:=ae.frozen 1;simp at U;clear r1 r2 r3 ae hX)
            | (
              go_simp;go_at_call 126;refine bo.mono ?_;rintro e wi ⟨rfl,a8⟩;have a9:=Hd (br.later a8);have gd:=a9.box.cell 1;have gz:=a9.below.size;have h2:=a9.box.lt;simp at gd;clear a8))
           all_goals go_wp2
           all_goals go_roundg (na-(done.length+1))
           all_goals first
            | (case measure=>omega)
            | (case rel=>exact⟨done.length+1,done++[F2],_,rfl,mR,mY,mV,HF,et⟩)
          ·obtain rfl:na=done.length:=by omega
           have es:Hid (done=ra.map (B6 i.T i.N)):=Hd (by have h1:=d8.out;rw[Dd (by have:=df.out;omega)]at h1;exact h1)
           have a5:=Hd bn.drew;have br:=Hd (a6.later (ID wr));have al:=Hd ((ak.below a6.below ak.lt).drew);have f6:Hid ((a1++[(⟨F,nC Ax done.length cx,done⟩:Bt)]).map Bt.g=(i.R.take (k+1)).map (GD i.T i.N)):=Hd (by rw[Bz,bt.out,f8.out,<-es.out];rfl)
           go_wp2;go_region_law (
                  refine Fe eN (.tmp 95) (.tmp 97) ?_ ?_ (base:=I.heap.size) (n:=a1.length) (m:=1) (N:=a1.length+1) (v:=nC AR a1.length cR) (src:=nC (wr,0) 1 1) (xs:=a1.flatMap Bt.cells) (news:=[nE nM F,nC Ax done.length cx]) ?_ ?_ ?_ ?_ ?_ ?_ ?_ ?_ ?_
                  ·rfl
                  ·rfl
                  ·rfl
                  ·rfl
                  ·exact a5.fR.alloc _
                  ·exact Ba.Ap (c:=1) (Ah.new wr.drew 145 #[F,nC Ax done.length cx]) rfl mZ
                  ·rfl
                  ·unfold maxLen;omega
                  ·omega
                  ·simp;omega
                  intro A3 fo w3 r1 r2 r3;have HF:=Hd (a5.app (q:=⟨F,nC Ax done.length cx,done⟩) (IK br.own g5) r1 r3);have a0:=Hd (HF.2.Ap al (by
                   rintro(hh|hh)
                   ·exact CB a5.fR al mT hh
                   ·subst hh;exact Ah.Bh al a5.Ap mT rfl))
                  have hX:Aj (fun k=>(Value.slice AR a1.length cR).ownBlock=nJ k) wr.drew w3:=((Aj.refl _ wr.drew).alloc (nO #[F,nC Ax done.length cx] 145)).next (.Cy r3.1);have ae:=hX.Ap a5.Ap (CB a5.fR a5.Ap mT);have z5:=ae.cell 5;have zf:=ae.frozen 5;simp at z5;clear r1 r2 r3 ae hX)
           all_goals go_wp2
           all_goals go_roundg (ng-(k+1))
           all_goals first
            | (case measure=>omega)
            | (case rel=>exact⟨k+1,a1++[⟨F,nC Ax done.length cx,done⟩],_,rfl,mR,mY,Hd HF.1,a0,f6⟩)
     ·obtain rfl:k=ng:=by omega
      have dk:Hid (a1.map Bt.g=i.R.map (GD i.T i.N)):=Hd (by have h1:=bt.out;rw[Dd (by have p:=dg.out;have h3:=aw.out;rw[<-p,lM];omega)]at h1;exact h1)
      obtain⟨AT,cT,ft⟩:=BH J.ft;subst ft;obtain⟨AN,cN,fr⟩:=BH J.fn;subst fr;have gj:=J.lt;have ao:=Hd (J.start ((i.T.length:Int)+1));have a0:Hid (Ah (C.setCell (bb,6) (nE nM ((i.T.length:Int)+1))) g0 58 ZG):=Hd (ak.BC (p:=⟨bb,6,nK⟩) (by rintro rfl;exact Ah.Bh ak J.Ap mT rfl) _);have b6:=J.Ap.frozen 6;clear fv az;go_upto_region 25 with fail
      clear c0 c3 c4 c5 c6 c7 aa b6;generalize C.setCell (bb,6) (nE nM ((i.T.length:Int)+1))=wS at *;obtain⟨c0,c3,c4,c5,c6,c7,aa⟩:=ao.1.cells;obtain⟨k3,_⟩:=d5 wS ao.1.below;have z0:=a0.cell 0;have U:=a0.cell 1;have z2:=a0.cell 2;have z3:=a0.cell 3;have f0:=a0.frozen 0;have f1:=a0.frozen 1;have f2:=a0.frozen 2;have f3:=a0.frozen 3;simp[ZG]at z0 U z2 z3;rcases fd.out with⟨b0,rfl⟩|⟨st,sr,b0,e6,g,c,ah,eb⟩
      ·have bp:=Hd (fun u0 u1 u2 u3=>DU.last (g:=Hc x i) ao.1 a0 eh rfl rfl dk (by unfold Hc;rw[b0];simp) u0 u1 u2 u3)
       clear b0;go_wp2;refine bodyPost_ret (v:=.agg #[nC AT i.T.length cT,nC AN i.N.length cN,nC AR a1.length cR,nE nM ((i.T.length:Int)+1)]) (by simp[results,results87,go_sem,z0,U,z2,z3]) rfl ?_;rw[HE.out];exact bp _ _ _ _
      ·cases ah
       have g3:=eb wS ao.1.below;have bo:=Hd (ao.1.drew.find st.s);have ew:Hid ((Hc x i).s=B6 i.T i.N st.s):=Hd (by unfold Hc;rw[b0]);have al:=Hd a0.drew;have f9:=Hd ao.1.drew;clear b0 eb;generalize B6 i.T i.N st.s=F3 at *;go_wp2;go_region_law (
                go_simp;go_at_call 126;refine bo.mono ?_;rintro e wf ⟨rfl,cb⟩;have b7:=Hd (f9.later cb);have b8:=Hd (al.below cb al.lt);have fl:=b7.cells.2.2.2.2.1;have fm:=b7.Ap.frozen 6;clear cb)
       all_goals have dm:=Hd (b7.start (F3:Int))
       all_goals have a2:Hid (Ah (wf.setCell (bb,6) (nE nM (F3:Int))) g0 58 ZG):=Hd (b8.BC (p:=⟨bb,6,nK⟩) (by rintro rfl;exact Ah.Bh b8 b7.Ap mT rfl) _)
       all_goals generalize wf.setCell (bb,6) (nE nM (F3:Int))=wT at *
       all_goals clear c0 c3 c4 c5 c6 c7 aa k3 z0 U z2 z3 f0 f1 f2 f3 g3 fl fm
       all_goals obtain⟨c0,c3,c4,c5,c6,c7,aa⟩:=dm.1.cells
       all_goals have z0:=a2.cell 0
       all_goals have U:=a2.cell 1
       all_goals have z2:=a2.cell 2
       all_goals have z3:=a2.cell 3
       all_goals have f0:=a2.frozen 0
       all_goals have f1:=a2.frozen 1
       all_goals have f2:=a2.frozen 2
       all_goals have f3:=a2.frozen 3
       all_goals simp[ZG]at z0 U z2 z3
       all_goals have bp:=Hd (fun u0 u1 u2 u3=>DU.last (g:=Hc x i) dm.1 a2 eh rfl rfl dk (by rw[ew.out]) u0 u1 u2 u3)
       all_goals go_wp2
       all_goals refine bodyPost_ret (v:=.agg #[nC AT i.T.length cT,nC AN i.N.length cN,nC AR a1.length cR,nE nM (F3:Int)]) (by simp[results,results87,go_sem,z0,U,z2,z3]) rfl ?_
       all_goals rw[HE.out]
       all_goals exact bp _ _ _ _
end
variable{R:List Bt}{w:nS}{nv tv:nU}{g:PG}
section
open Go.RowKit Go.Proofs.Tryz Go.Maps
def dL{fn:Func}{i:Frame}{cs:List Frame}{R:Ending->FrameMode->nS->Prop}(j:fn.results=#[])(h:R (nP (.tuple #[])) u w):bodyPostS P fn i cs R .normal {tmps:=tmps,defers:=[]} ({i with mode:=u}::cs) w:=
 ⟨rfl,u,rfl,_,results_none j _ _ _,h⟩
def Mx{W:nS}(h:W.heap.size=n):Ah (W.alloc (nO cs t)) n t cs:=h▸Ah.new W t cs
def fT{o l:Nat} :
  CallsD Tryz.prog 84 #[(o,0),(l,0)] .returning w fun e p w'=>e=nP (.tuple #[])/\p=.returning/\w'=w:=by
 have t:=SA;refine callsD_of_wpS func84 rfl fun I C i=>?_
 simp only[ntmps84,List.size_toArray,List.length_cons,List.length_nil,Nat.reduceAdd,Nat.reduceSub,Array.replicate_succ,Array.replicate_zero,List.push_toArray,List.append_toArray,List.nil_append,List.cons_append];apply wpS_seq;apply wpS_region;simp[wpOpsS,go_sem,recoverD,i,Exit.thenS];refine wpS_of_wp ?_;have j:=Hd i;clear i;go_wp2;exact PY rfl j ⟨rfl,rfl,rfl⟩
def QX{j o:Nat}{k p:Int}{R:List PanicEntry}{z0 z1 z2 z3:nU}(l:Ah w j 58 #[z0,z1,z2,z3])(t:Ah w o 106 #[v])(J:k≠0) :
  CallsD Tryz.prog 84 #[nF (nJ ⟨j,0,nK⟩),nF (nJ ⟨o,0,nK⟩)] (.panicking ({v:=.iface 164 (.agg #[nE nM k,nE nM p]),recovered:=false}::R)) w fun e u' w'=>
   e=nP (.tuple #[])/\u'=.panicking ({v:=.iface 164 (.agg #[nE nM k,nE nM p]),recovered:=true}::R)/\∃b,Ah w' b 219 #[nE nM k,nE nM p]/\Ah w' j 58 ZG/\Ah w' o 106 #[.iface 217 (nF (nJ ⟨b,0,nK⟩))]/\Aj (fun i=>i=j\/i=o) w w':=by
 have a0:=UU;have a2:=Sw;have C:o≠j:=Ah.Bh t l mT;have a3:=l.lt;have a1:=t.lt;have c0:=l.cell 0;have c1:=l.cell 1;have c2:=l.cell 2;have c3:=l.cell 3;have f0:=l.frozen 0;have f1:=l.frozen 1;have f2:=l.frozen 2;have f3:=l.frozen 3;have d0:=t.cell 0;have df:=t.frozen 0;simp at c0 c1 c2 c3 d0;have P:(k==0)=false:=by simpa using J
 have U:=Hd l;have T:=Hd t;have HN:=Hd (GI k P p (w.alloc (nO #[nE nM k,nE nM p] 164)));clear l t J P;refine callsD_of_wpS func84 rfl fun c₀ cs I=>?_
 simp only[ntmps84,List.size_toArray,List.length_cons,List.length_nil,Nat.reduceAdd,Nat.reduceSub,Array.replicate_succ,Array.replicate_zero,List.push_toArray,List.append_toArray,List.nil_append,List.cons_append];apply wpS_seq;apply wpS_region;simp[wpOpsS,go_sem,recoverD,I,Exit.thenS];refine wpS_of_wp ?_;have HU:=Hd I;clear I;go_wp2_with (go_at_call 85;refine HN.mono ?_;rintro e w' ⟨rfl,rfl⟩)
 refine dL rfl ⟨rfl,rfl,w.heap.size+1,Mx mV,?_,?_,?_⟩
 ·simpa [ZG] using(((((((U.AW 0 (nC nK 0 0)).AW 1 (nC nK 0 0)).AW 2 (nC nK 0 0)).AW 3 (nE nM 0)).BC (p:=⟨o,0,nK⟩) (by simpa using Ne.symm C) (.iface 217 (nF (nJ ⟨w.heap.size+1,0,nK⟩)))).alloc (nO #[nE nM k,nE nM p] 164)).alloc (nO #[nE nM k,nE nM p] 219))
 ·simpa using(((((((T.BC (p:=⟨j,0,nK⟩) C (nC nK 0 0)).BC (p:=⟨j,1,nK⟩) C (nC nK 0 0)).BC (p:=⟨j,2,nK⟩) C (nC nK 0 0)).BC (p:=⟨j,3,nK⟩) C (nE nM 0)).AW 0 (.iface 217 (nF (nJ ⟨w.heap.size+1,0,nK⟩)))).alloc (nO #[nE nM k,nE nM p] 164)).alloc (nO #[nE nM k,nE nM p] 219))
 ·exact(((((((Aj.refl (fun i=>i=j\/i=o) w).set (p:=⟨j,0,nK⟩) (.inr (.inl rfl)) _).set (p:=⟨j,1,nK⟩) (.inr (.inl rfl)) _).set (p:=⟨j,2,nK⟩) (.inr (.inl rfl)) _).set (p:=⟨j,3,nK⟩) (.inr (.inl rfl)) _).set (p:=⟨o,0,nK⟩) (.inr (.inr rfl)) _).alloc _).alloc _
def dJ(h:w.ownsRow B 216 3 v l.length (l.flatMap Tk.cells))(hl:0<l.length):EY w v l:=by
 rcases h.2 with⟨_,h0⟩|⟨g,cap,o,rfl,h1,t,C,I,h5,J⟩
 ·omega
 ·refine⟨g,0,cap,o,rfl,⟨t,⟨C,I⟩,fun k a0 T=>?_⟩⟩
  obtain⟨R,U⟩:=sG.1 T;have i:∀j,j<3->o[0+k*3+j]?=(Tk.cells a0)[j]?:=fun j P=>by have e:=CR Tk.cells 3 Tk.Np l k j R P;rw[U]at e;rw[<-e,<-J,List.getElem?_take,if_pos mR,Nat.zero_add];simp
  have p:=i 0 mR;rw[Nat.add_zero]at p;exact⟨p,i 1 mR,i 2 mR⟩
def P0(w:nS)(r:Except Bn PG)(e:Ending)(w':nS):Prop:=
 Below w w w'/\match r with
 | .ok g=>∃l j i R,e=nP (.tuple #[.agg #[l,j,i,g.s],.nilIface])/\Has w w' l j i g R
 | .error f=>∃v,e=nP (.tuple #[.agg #[nC nK 0 0,nC nK 0 0,nC nK 0 0,nE nM 0],v])/\JQ w' v f
def Has.mono{l:nS}{j:nU}(h:Has l w' tv nv j g R)(i:w.heap.size<=l.heap.size):Has w w' tv nv j g R:=
 ⟨IK h.ft i,IK h.fn i,IK h.fR i,fun q o=>IK (h.IB q o) i,h.r⟩
def Has.Ay{o:nS}{p:nU}(h:Has o w tv nv p g R)(j:Aj X w w')(l:∀k,o.heap.size<=k->¬X k):Has o w' tv nv p g R:=
 ⟨j.own h.ft (fun k i=>l k (B0 h.ft k i).1),j.own h.fn (fun k i=>l k (B0 h.fn k i).1),j.own h.fR (fun k i=>l k (B0 h.fR k i).1),fun q t=>j.own (h.IB q t) (fun k i=>l k (B0 (h.IB q t) k i).1),h.r⟩
def kO(v:nU)(w:nS):(binOp .neq 106 (.iface 217 v) .nilIface).run Tryz.prog w=.ok (nI true) w:=by kernel_rfl
def We(w:nS):(binOp .neq 106 .nilIface .nilIface).run Tryz.prog w=.ok (nI false) w:=by kernel_rfl
def SH(w:nS):(Instr.makeMap 65 nK).run Tryz.prog w=.ok (.map (nJ w.heap.size)) (w.alloc (.map #[] 0)):=by kernel_rfl
theorem Ye(h:(i.all fun p=>!p.goexit)=true):i.dropWhile (fun x=>!x.goexit)=[]:=by
 induction i with
 | nil=>rfl
 | cons a r j=>simp only[List.all_cons,Bool.and_eq_true]at h;rw[List.dropWhile_cons,if_pos h.1,j h.2]
def aR(s:ByteArray)(hs:s.size<=4611686018427387904)(w:nS)(hm:FI w):() 45 #[nH s] w (P0 w (Ea s.data.toList)):=by
 have c8:∀(fn:Fn) (first cap:Array nU) (w:nS),(Instr.makeFunc fn first cap).run Tryz.prog w=.ok (.func fn first cap) w:=fun _ _ _ _=>rfl
 have n1:=kO;have n2:=We;have c9:=SH;have ax:Below w w ((w.alloc (nO ZG 58)).alloc (nO #[.nilIface] 106)):=(AE w _).alloc mV _;have ab:=Hd (Xb s hs ((w.alloc (nO ZG 58)).alloc (nO #[.nilIface] 106)) (hm.later ax));have aj:Hid (Ah ((w.alloc (nO ZG 58)).alloc (nO #[.nilIface] 106)) w.heap.size 58 ZG):=Hd ((Ah.new w 58 ZG).alloc _);have ah:Hid (Ah ((w.alloc (nO ZG 58)).alloc (nO #[.nilIface] 106)) (w.heap.size+1) 106 #[.nilIface]):=Hd (Mx mV);have ad:=Hd ax;have cc:w.heap.size+1<((w.alloc (nO ZG 58)).alloc (nO #[.nilIface] 106)).heap.size:=by simp
 clear ax hm;cases C:tokens s.data.toList with
 | error f=>
  have HE:Hid (Ea s.data.toList=.error f):=Hd (by unfold Ea;rw[C]);rw[C]at ab;clear C
  go_enter_defers func45,ntmps45
  go_wp2_with (
      go_at_call 83;refine ab.mono ?_;intro e w1 l;obtain⟨a0,v,rfl,b,rfl,bc⟩:=l
      have av:=Hd (aj.below a0 aj.lt);have a3:=Hd (ah.below a0 ah.lt);have b6:=Hd bc;have ao:=Hd (ad.trans (a0.mono ad.size));have o:=a3.cell 0;have df:=a3.frozen 0;simp at o;clear a0 bc)
  generalize ay:w.heap.size=i at *;generalize bq:i+1=j at *;have az:j≠i:=by omega
  have I:=Hd (av.BC (p:=⟨j,0,nK⟩) (Ne.symm az) (.iface 217 (b,0)));have a5:Hid (Ah (w1.setCell (j,0) (.iface 217 (b,0))) j 106 #[.iface 217 (b,0)]):=Hd (by simpa using a3.AW 0 (.iface 217 (b,0)));have ar:=Hd (b6.BC (p:=⟨j,0,nK⟩) (Ah.Bh b6 a3 mT) (.iface 217 (b,0)));have ae:=Hd ((Aj.AJ (X:=fun _=>False) (a:=w) (b:=w1) (by rw[ay];exact ao)).set (p:=⟨j,0,nK⟩) (.inl (by show w.heap.size<=j;omega)) (.iface 217 (b,0)))
  clear o df;generalize w1.setCell (j,0) (.iface 217 (b,0))=p at *;have J:=I.cell 0;have P:=I.cell 1;have R:=I.cell 2;have T:=I.cell 3;have f0:=I.frozen 0;have f1:=I.frozen 1;have f2:=I.frozen 2;have f3:=I.frozen 3;have o:=a5.cell 0;have df:=a5.frozen 0;simp[ZG]at J P R T o
  go_region
  all_goals go_wp2
  all_goals simp only[bodyPostD,Leaves]
  all_goals refine⟨.tuple #[.agg #[nC nK 0 0,nC nK 0 0,nC nK 0 0,nE nM 0],.iface 217 (b,0)],by simp[results,results45,go_sem,J,P,R,T,o],?_⟩
  all_goals rw[HE.out]
  all_goals
   have al:b≠i:=Ah.Bh ar I mT;have bp:b≠j:=Ah.Bh ar a5 mT;have bo:=(((((ae.set (p:=⟨i,0,nK⟩) (.inl (by show w.heap.size<=i;omega)) (nC nK 0 0)).set (p:=⟨i,1,nK⟩) (.inl (by show w.heap.size<=i;omega)) (nC nK 0 0)).set (p:=⟨i,2,nK⟩) (.inl (by show w.heap.size<=i;omega)) (nC nK 0 0)).set (p:=⟨i,3,nK⟩) (.inl (by show w.heap.size<=i;omega)) (nE nM 0)).set (p:=⟨j,0,nK⟩) (.inl (by show w.heap.size<=j;omega)) (.iface 217 (b,0))).drew;exact⟨bo.below (AF _) (fun _ _=>id),_,rfl,b,rfl,(((((ar.BC (p:=⟨i,0,nK⟩) al _).BC (p:=⟨i,1,nK⟩) al _).BC (p:=⟨i,2,nK⟩) al _).BC (p:=⟨i,3,nK⟩) al _).BC (p:=⟨j,0,nK⟩) bp _).drew⟩
 | ok ts=>
  have a4:=Hd (bC C);have a3:Hid (∀r,Fq ts=r->Ea s.data.toList=match r with | .error f=>.error f | .ok x=>Gn x):=Hd (fun r hr=>by unfold Ea;rw[C];simp only;rw[hr];cases r<;>rfl);rw[C]at ab;clear C
  go_enter_defers func45,ntmps45
  go_wp2_with (
      go_at_call 83;refine ab.mono ?_;intro e w1 l;obtain⟨a0,v,rfl,b1⟩:=l
      have av:=Hd (aj.below a0 aj.lt);have a8:=Hd (ah.below a0 ah.lt);have ao:=Hd (ad.trans (a0.mono ad.size));have ba:=Hd b1;obtain⟨A,c,hv⟩:=BH b1;subst hv;have o:=a8.cell 0;have df:=a8.frozen 0;have br:=a8.lt;simp at o;clear a0 b1)
  generalize ay:w.heap.size=i at *;generalize bq:i+1=j at *;have az:j≠i:=by omega
  have I:=Hd (av.BC (p:=⟨j,0,nK⟩) (Ne.symm az) .nilIface);have a5:Hid (Ah (w1.setCell (j,0) .nilIface) j 106 #[.nilIface]):=Hd (by simpa using a8.AW 0 .nilIface);have ae:=Hd ((Aj.AJ (X:=fun _=>False) (a:=w) (b:=w1) (by rw[ay];exact ao)).set (p:=⟨j,0,nK⟩) (.inl (by show w.heap.size<=j;omega)) .nilIface);have b9:=Hd (Ee ba (p:=⟨j,0,nK⟩) (CB ba a8 mT) .nilIface);have bh:(w1.setCell (j,0) .nilIface).heap.size=w1.heap.size:=by simp
  clear o df br;generalize w1.setCell (j,0) .nilIface=p at *;rw[<-bh];clear bh;have bu:0<ts.length:=by obtain⟨a2,r,h⟩:=a4.ended.cons;rw[h];simp
  have b0:=B0 b9;have c7:=I.lt;have bz:=a5.lt;have bw:i<=((w.alloc (nO ZG 58)).alloc (nO #[.nilIface] 106)).heap.size:=by simp;omega
  have b7:=Hd (bK (w:=(p.alloc (.map #[] 0)).alloc (nO #[nC A ts.length c,nC nK 0 0,nC nK 0 0,nC nK 0 0,nC nK 0 0,.map (nJ p.heap.size)] 169)) (B:=p.heap.size+1+1) (rb:=p.heap.size+1) (mb:=p.heap.size) (tb:=(Value.slice A ts.length c).ownBlock) (l:=ts)
   ⟨⟨⟨_,Mx mV,dJ (((Aj.refl (fun _=>False) p).alloc _ |>.alloc _).own b9 (fun _ _=>id)) bu,rfl⟩,a4.ended,fun e=>by have:=(b0 _ e).2;omega⟩,World.ownsRow_nil _ _ _ _,World.ownsRow_nil _ _ _ _,World.ownsRow_nil _ _ _ _,(fun g hg=>by cases hg),mR,(fun g hg=>by have:=(b0 g hg).2;omega),mV,by simpa using a4.len,by simpa using a4.len,by simpa using a4.len⟩
   (World.ownsMap.alloc (World.ownsMap_made p Tryz.prog 9 (plainElem Tryz.prog 3)) _) mR mR (fun u hu=>(a4.all u hu).1))
  have b8:=Hd ((I.alloc (.map #[] 0)).alloc (nO #[nC A ts.length c,nC nK 0 0,nC nK 0 0,nC nK 0 0,nC nK 0 0,.map (nJ p.heap.size)] 169));have b4:=Hd ((a5.alloc (.map #[] 0)).alloc (nO #[nC A ts.length c,nC nK 0 0,nC nK 0 0,nC nK 0 0,nC nK 0 0,.map (nJ p.heap.size)] 169));have bk:=Hd ((ae.alloc (.map #[] 0)).alloc (nO #[nC A ts.length c,nC nK 0 0,nC nK 0 0,nC nK 0 0,nC nK 0 0,.map (nJ p.heap.size)] 169));have ca:w.heap.size<=p.heap.size:=ae.size;clear b0 bw
  generalize (p.alloc (.map #[] 0)).alloc (nO #[nC A ts.length c,nC nK 0 0,nC nK 0 0,nC nK 0 0,nC nK 0 0,.map (nJ p.heap.size)] 169)=w3 at *;generalize p.heap.size=mb at *;have au:=Hd (ZY a4);refine b7.mono ?_;intro e t l;obtain⟨an,l⟩:=l;have ai:=Hd (an.Ap b8 mR);have af:=Hd (an.Ap b4 mR);have aq:Hid (Aj (fun _=>False) w t):=Hd (bk.trans an (fun a1 hi h=>by omega));clear an;cases hf:Fq ts with
  | error f=>
   have HE:=Hd (a3 _ hf);have a7:=au.out;rw[hf]at a7 l;have a7:((f.1:Nat):Int)≠0:=by have:f.1≠0:=a7;omega
   have l:e=_:=l;subst l;simp only[bodyPostD];refine leaves_cons (f:=84) (args:=#[(i,0),(j,0)]) mV (by simp[go_sem]) ?_;refine(QX (show Ah t i 58 #[nC nK 0 0,nC nK 0 0,nC nK 0 0,nE nM 0] from ai) af a7).mono ?_;rintro e u' w7 ⟨rfl,rfl,b,y1,y2,y3,y4⟩;simp only[settle,List.dropWhile_nil,Leaves];have J:=y2.cell 0;have P:=y2.cell 1;have R:=y2.cell 2;have T:=y2.cell 3;have o:=y3.cell 0;simp[ZG]at J P R T o;refine⟨.tuple #[.agg #[nC nK 0 0,nC nK 0 0,nC nK 0 0,nE nM 0],.iface 217 (b,0)],by simp[results,results45,go_sem,J,P,R,T,o],?_⟩
   rw[HE.out];exact⟨(aq.trans y4 (fun a1 hi h=>by omega)).below (AF _) (fun _ _=>id),_,rfl,b,rfl,y1⟩
  | ok x=>
   have b5:=Hd (a3 _ hf);have hq:=au.out;rw[hf]at hq l;obtain⟨rfl,l',dv,kv,sv,rv,rs,D,b2,bf⟩:=l;obtain⟨bi,be⟩:=hq;have bm:=Hd bf;have ak:=Hd bi;have bl:=Hd b2;have bn:Hid (∀r∈rs,r.left.s.length<=8192/\∀q∈r.ss,(∀a2∈q.s.l,a2.s.length<=8192)/\q.s.l.length<=100000):=Hd (fun r hr=>by obtain⟨h1,h2⟩:=be r.r (by rw[<-b2];exact List.mem_map_of_mem hr);refine⟨h1.1,fun q hq=>?_⟩;have h3:=h2 q.s (List.mem_map_of_mem hq);exact⟨fun a2 C=>(h3.1 a2 C).1,h3.2⟩)
   clear hf bi b2 bf be au b7 b8 b4;go_wp2_with fail
   have bb:BQ t (((t.alloc (.map #[] 0)).alloc (.map #[] 0)).alloc (nO #[(mb+1,0),.map (nJ t.heap.size),.map (nJ (t.heap.size+1)),nC nK 0 0,nC nK 0 0,nC nK 0 0,nE nM 0,nC nK 0 0] 173)) (t.heap.size+1+1) t.heap.size (t.heap.size+1) (mb+1) (nC nK 0 0) (nC nK 0 0) (nC nK 0 0) ⟨[],[],[]⟩ [] (.map []) (.map []):=by
    refine⟨((((Aj.refl (fun _=>False) t).alloc _).alloc _).alloc _).below (AF _) (fun _ _=>id),Mx mV,World.ownsRow_nil _ _ _ _,World.ownsRow_nil _ _ _ _,World.ownsRow_nil _ _ _ _,rfl,(by simp),(fun k hk=>by cases hk),(by simp),(by simp),World.ownsMap.alloc (World.ownsMap.alloc (World.ownsMap_made t Tryz.prog 9 (plainElem Tryz.prog 3)) _) _,?_,GO.start,GO.start,⟨mR,AF _,mR⟩,mR,mV,mV,mV⟩;have h:=World.ownsMap_made (H:=Unit) (t.alloc (.map #[] 0)) Tryz.prog 9 (plainElem Tryz.prog 3);rw[World.size_alloc]at h;exact h.alloc _
   have bj:=Hd (mu bb bm bl ak.same (fun a2 C=>(ak.decl a2 C).1) (fun a2 C=>(ak.starts a2 C).1) (gW ak) bn);clear bb;refine bj.mono ?_;intro e w6 l;obtain⟨a9,l⟩:=l;have U:=Hd (ai.below a9 ai.lt);have ag:=Hd (af.below a9 af.lt);have b3:Hid (Aj (fun _=>False) w w6):=Hd (aq.next (.AJ a9));have cb:=a9.size;have bv:=aq.size;have c0:=U.lt;have bx:=ag.lt;have c6:i<t.heap.size/\j<t.heap.size:=⟨ai.lt,af.lt⟩
   clear a9;cases a6:Gn x with
   | error f=>
    have HE:Hid (Ea s.data.toList=.error f):=Hd (by rw[b5.out,<-a6]);have a7:((f.1:Nat):Int)≠0:=by have:f.1≠0:=eL a6;omega
    rw[a6]at l;obtain⟨cd,bt,rfl⟩:=l;simp only[bodyPostD];refine leaves_cons (f:=84) (args:=#[(i,0),(j,0)]) mV (by simp[go_sem]) ?_;refine(QX (show Ah w6 i 58 #[nC nK 0 0,nC nK 0 0,nC nK 0 0,nE nM 0] from U) ag a7).mono ?_;rintro e u' w7 ⟨rfl,rfl,b,y1,y2,y3,y4⟩;simp only[settle,Ye bt,Leaves];have J:=y2.cell 0;have P:=y2.cell 1;have R:=y2.cell 2;have T:=y2.cell 3;have o:=y3.cell 0;simp[ZG]at J P R T o;refine⟨.tuple #[.agg #[nC nK 0 0,nC nK 0 0,nC nK 0 0,nE nM 0],.iface 217 (b,0)],by simp[results,results45,go_sem,J,P,R,T,o],?_⟩
    rw[HE.out];exact⟨(b3.trans y4 (fun a1 hi h=>by omega)).below (AF _) (fun _ _=>id),_,rfl,b,rfl,y1⟩
   | ok g=>
    have HE:Hid (Ea s.data.toList=.ok g):=Hd (by rw[b5.out,<-a6]);rw[a6]at l;obtain⟨tv,nv,Rv,aw,rfl,aa⟩:=l;have HH:=Hd aa;obtain⟨A1,c1,rfl⟩:=BH aa.ft;obtain⟨A2,c2,rfl⟩:=BH aa.fn;obtain⟨A3,c3,rfl⟩:=BH aa.fR;have J:=U.cell 0;have P:=U.cell 1;have R:=U.cell 2;have T:=U.cell 3;have f0:=U.frozen 0;have f1:=U.frozen 1;have f2:=U.frozen 2;have f3:=U.frozen 3;have o:=ag.cell 0;have df:=ag.frozen 0;simp[ZG]at J P R T o;clear a6 aa;go_wp2;have bd:Aj (fun a1=>a1=i\/a1=j) w6 (((((w6.setCell (i,0) (nC A1 g.T.length c1)).setCell (i,1) (nC A2 g.N.length c2)).setCell (i,2) (nC A3 aw.length c3)).setCell (i,3) g.s).setCell (j,0) .nilIface):=
     (((((Aj.refl (fun a1=>a1=i\/a1=j) w6).set (p:=⟨i,0,nK⟩) (.inr (.inl rfl)) _).set (p:=⟨i,1,nK⟩) (.inr (.inl rfl)) _).set (p:=⟨i,2,nK⟩) (.inr (.inl rfl)) _).set (p:=⟨i,3,nK⟩) (.inr (.inl rfl)) _).set (p:=⟨j,0,nK⟩) (.inr (.inr rfl)) _
    simp only[bodyPostD];refine leaves_cons (f:=84) (args:=#[(i,0),(j,0)]) mV (by simp[go_sem]) ?_;refine fT.mono ?_;rintro e u' w7 ⟨rfl,rfl,rfl⟩;simp only[settle,Leaves];refine⟨.tuple #[.agg #[nC A1 g.T.length c1,nC A2 g.N.length c2,nC A3 aw.length c3,g.s],.nilIface],by simp[results,results45,go_sem,J,P,R,T,o],?_⟩;rw[HE.out];exact⟨(b3.trans bd (fun a1 hi h=>by omega)).below (AF _) (fun _ _=>id),_,_,_,aw,rfl,(HH.Ay bd (fun k hk h=>by omega)).mono bv⟩
end
section
open Go.RowKit Go.Proofs.Tryz Go.Maps
def OX{o:Type}{E:o->nU}{l:List o}(h:w.ownsRow B e 1 v l.length (l.map E))(j:l.length<=4611686018427387904):BD E w v l:=by
 rcases Bg h with⟨rfl,h0⟩|⟨b,c,rfl,I,p,t,J,_⟩
 ·exact⟨⟨nK,0,by rw[h0],fun k x i=>by have:=(sG.1 i).1;omega⟩,j,fun A n c e=>by cases e;exact⟨AF _,fun _=>rfl⟩⟩
 ·refine⟨⟨_,c,rfl,fun k x i=>⟨b,0,rfl,p,?_⟩⟩,j,fun A n C e=>by cases e;exact⟨t,fun e=>by cases e⟩⟩
  have P:=(sG.1 i).1;rw[Nat.zero_add,Bb h k mR,pG,i];rfl
def Bt.ru(q:Bt):Ru:=⟨(q.left:Nat),q.v,q.r.map fun n:Nat=>(n:Int)⟩
def kG(h:w.ownsRow B 145 2 v R.length (R.flatMap Bt.cells))(hr:∀q∈R,w.ownsRow B 3 1 q.v q.r.length (q.r.map Mark))(J:R.length<=4611686018427387904)(h8:∀q∈R,q.r.length<=8):E4 w v (R.map Bt.ru):=by
 have a1:∀q∈R,BD BZ w (Bt.ru q).v (Bt.ru q).right:=fun q i=>by
  have C:=hr q i;have e:(Bt.ru q).right.length=q.r.length:=by unfold Bt.ru;simp
  refine OX (B:=B) (e:=3) ?_ (by rw[e];have:=h8 q i;omega);rw[e];have P:(Bt.ru q).right.map BZ=q.r.map Mark:=by unfold Bt.ru;rw[List.map_map];rfl
  rw[P];exact C
 rcases Bg h with⟨rfl,h0⟩|⟨b,c,rfl,C,T,U,h4,_⟩
 ·refine⟨⟨nK,0,by rw[lM,h0],fun k x l=>?_⟩,by rw[lM];exact J,fun A n c e=>by cases e;exact⟨AF _,fun _=>rfl⟩⟩
  have:=(sG.1 l).1;rw[lM]at this;omega
 ·refine⟨⟨_,c,by rw[lM],fun k x l=>⟨b,0,rfl,T,?_⟩⟩,by rw[lM];exact J,fun A n c' e=>by cases e;exact⟨U,fun e=>by cases e⟩⟩
  rw[pG]at l;obtain⟨q,i,rfl⟩:=Option.map_eq_some_iff.1 l;obtain⟨hk,a0⟩:=sG.1 i;have I:∀j,j<2->(R.flatMap Bt.cells)[k*2+j]?=(Bt.cells q)[j]?:=fun j hj=>by rw[CR Bt.cells 2 Bt.Np R k j hk hj,a0]
  have o:=Bb h (k*2) mR;have p:=Bb h (k*2+1) mR;have t:=I 0 mR;rw[Nat.add_zero]at t;rw[t]at o;rw[I 1 mR]at p;rw[Nat.zero_add];exact⟨o,p,a1 q (mG i)⟩
def TY{s:AM}(h:(CQ s||CG s)=true):s.length<=1048576:=by
 rw[Bool.or_eq_true]at h;rcases h with h|h
 ·obtain⟨c,r,rfl,_,_,j⟩:=jD h
  omega
 ·obtain⟨m,rfl,_,_,i⟩:=YI h
  simp;omega
def lB{o:nS}{i:nU}(h:Has o w tv nv i g R):MH g (R.map Bt.ru):=by
 refine⟨?_,fun r j=>?_⟩
 ·rw[<-h.r,List.map_map]
  refine List.map_congr_left fun q _=>?_
  unfold Bt.ru Bt.g;refine Prod.ext mV ?_;simp only[Function.comp,List.map_map];exact(List.map_congr_left (fun a _=>by simp[Function.comp])).trans (List.map_id q.r)
 ·obtain⟨q,_,rfl⟩:=List.mem_map.1 j
  refine⟨by unfold Bt.ru;simp,fun s l=>?_⟩;obtain⟨n,_,rfl⟩:=List.mem_map.1 l;omega
def fW{o:nS}{i:nU}(h:Has o w tv nv i g R)(j:g.Good):∀q∈R,q.r.length<=8:=fun q l=>by have:=j.g4 q.g (by rw[<-h.r];exact List.mem_map_of_mem l);exact this
def Has.M0{j:nS}{l:nU}(h:Has j w tv nv l g R)(i:g.Good):Ei w (.agg #[tv,nv,l,g.s]) (Gm.Ds g (R.map Bt.ru)):=by
 have U:=i.g1;have g2:=i.g2;have g3:=i.g3;have C:=fW h i;have a0:R.length=g.R.length:=by rw[<-h.r,lM]
 have J:(g.T.map str).map Cc=g.T.map Nv:=by rw[List.map_map];rfl
 have I:(g.N.map str).map Cc=g.N.map Nv:=by rw[List.map_map];rfl
 refine⟨⟨tv,nv,l,rfl,OX (B:=j.heap.size) (e:=9) ?_ (by show (g.T.map str).length<=_;rw[lM];omega),OX (B:=j.heap.size) (e:=9) ?_ (by show (g.N.map str).length<=_;rw[lM];omega),kG h.fR h.IB mR C⟩,?_,?_,?_,?_,?_,?_⟩
 ·show w.ownsRow j 9 1 tv (g.T.map str).length ((g.T.map str).map Cc)
  rw[lM,J];exact h.ft
 ·show w.ownsRow j 9 1 nv (g.N.map str).length ((g.N.map str).map Cc)
  rw[lM,I];exact h.fn
 ·intro s o
  obtain⟨t,p,rfl⟩:=List.mem_map.1 o;rw[Kj];exact TY (i.g5 t p)
 ·intro s o
  obtain⟨t,p,rfl⟩:=List.mem_map.1 o;rw[Kj];exact TY (by rw[i.g6 t p];rfl)
 ·show (g.T.map str).length<=_
  rw[lM];omega
 ·show (g.N.map str).length<=_
  rw[lM];omega
 ·show (R.map Bt.ru).length<=_
  rw[lM];omega
 ·intro r T
  obtain⟨q,P,rfl⟩:=List.mem_map.1 T;have:=C q P;show (q.r.map fun n:Nat=>(n:Int)).length<=_;rw[lM];omega
end
def Vn(w:nS)(e:Ending)(w':nS):Prop:=Below w w w'/\∃l j i R g,Ea FM=.ok g/\OU g=true/\e=nP (.agg #[l,j,i,g.s])/\Has w w' l j i g R
def VY{s:ByteArray}(h:s.data.toList=FM):s.size<=4611686018427387904:=by
 have:s.size=FM.length:=by rw[<-h];exact(Array.length_toList (xs:=s.data)).symm
 rw[this];have:FM.length=2375:=by decide +kernel
 omega
def kA{b:Nat}{i j l o y0 y1 y2 y3:nU}(h:Ah w b t #[i,j,l,o]):Ah ((((w.setCell (b,0) y0).setCell (b,1) y1).setCell (b,2) y2).setCell (b,3) y3) b t #[y0,y1,y2,y3]:=by simpa using(((h.AW 0 y0).AW 1 y1).AW 2 y2).AW 3 y3
set_option maxRecDepth 1000000 in
def XK(hm:FI w):() 17 #[] w (Vn w):=by
 obtain⟨g,U,hb⟩:=Sc;have a0:Below w w (w.alloc (nO ZG 58)):=AE w _;have HP:Hid (∀s:ByteArray,s.data.toList=FM->() 45 #[nH s] (w.alloc (nO ZG 58)) (P0 (w.alloc (nO ZG 58)) (.ok g))):=Hd (fun s hs=>by have h:=aR s (VY hs) (w.alloc (nO ZG 58)) (hm.later a0);rw[hs,U]at h;exact h)
 have HG:=Hd (And.intro U hb);clear U hb hm a0;unfold ZG at HP;go_enter func17,ntmps17
 go_wp2_with (go_at_call 45;refine(HP _ ?_).mono ?_)
 ·kernel_rfl
 rintro e J ⟨P,tv,nv,Rv,R,rfl,I⟩;have a2:=P.size;simp at a2;have a1:w.heap.size<J.heap.size:=by omega
 have C:Ah J w.heap.size 58 #[nC nK 0 0,nC nK 0 0,nC nK 0 0,nE nM 0]:=(Ah.new w 58 _).below P mV;have c0:=C.cell 0;have c1:=C.cell 1;have c2:=C.cell 2;have c3:=C.cell 3;have f0:=C.frozen 0;have f1:=C.frozen 1;have f2:=C.frozen 2;have f3:=C.frozen 3;simp at c0 c1 c2 c3;have HK:=Hd C;have HH:=Hd I;have HB:=Hd P;obtain⟨i,o,rfl⟩:=BH I.ft;obtain⟨j,p,rfl⟩:=BH I.fn;obtain⟨l,t,rfl⟩:=BH I.fR;clear P I C;go_wp2;have T:=Hd ((kA (y0:=nC i g.T.length o) (y1:=nC j g.N.length p) (y2:=nC l R.length t) (y3:=nE nM g.s) HK).alloc (nO #[nC i g.T.length o,nC j g.N.length p,nC l R.length t,g.s] 58))
 have z0:=T.cell 0;have z1:=T.cell 1;have z2:=T.cell 2;have z3:=T.cell 3;simp only[show (#[Value.slice i g.T.length o,nC j g.N.length p,nC l R.length t,g.s]:Array nU)[0]?=nJ (nC i g.T.length o) from rfl,show (#[Value.slice i g.T.length o,nC j g.N.length p,nC l R.length t,g.s]:Array nU)[1]?=nJ (nC j g.N.length p) from rfl,show (#[Value.slice i g.T.length o,nC j g.N.length p,nC l R.length t,g.s]:Array nU)[2]?=nJ (nC l R.length t) from rfl,show (#[Value.slice i g.T.length o,nC j g.N.length p,nC l R.length t,g.s]:Array nU)[3]?=nJ (nE nM g.s) from rfl]at z0 z1 z2 z3
 refine bodyPost_ret (v:=.agg #[nC i g.T.length o,nC j g.N.length p,nC l R.length t,g.s]) (by simp[results,results17,go_sem,z0,z1,z2,z3]) rfl ?_;have hX:Aj (fun k=>k=w.heap.size) J ((((((J.setCell (w,0) (nC i g.T.length o)).setCell (w,1) (nC j g.N.length p)).setCell (w,2) (nC l R.length t)).setCell (w,3) g.s).alloc (nO #[nC i g.T.length o,nC j g.N.length p,nC l R.length t,g.s] 58))):=
  (((((Aj.refl (fun k=>k=w.heap.size) J).set (p:=⟨w.heap.size,0,nK⟩) (.inr rfl) _).set (p:=⟨w.heap.size,1,nK⟩) (.inr rfl) _).set (p:=⟨w.heap.size,2,nK⟩) (.inr rfl) _).set (p:=⟨w.heap.size,3,nK⟩) (.inr rfl) _).alloc _
 refine⟨((AE w _).trans (HB.mono mV)).trans (hX.below (Nat.le_of_lt a1) (fun k hk e=>by omega)),_,_,_,R,g,HG.1,HG.2,rfl,(HH.Ay hX (fun k hk e=>by simp at hk;omega)).mono mV⟩
