/- . -/
import Derived.Test.YtendpobbjjaopaaGreatDoorXaz
import Derived.Defers
import Derived.Recover
import Derived.Test.YtendpobbjjaopaaGreatDoorXao
set_option linter.all false
set_option maxRecDepth 100000
set_option maxHeartbeats 16000000
namespace Go.Proofs.YtendpobbjjaopaaGreatDoor
open Go.RowKit Go.Proofs.Tryz
open Value renaming slice→oG,int→oH,pointer→oI,string→oJ,bool→oK
open Option renaming some→oM,none→oN
open IntKind renaming i64→oO
open Obj renaming cells→oP
open Ending renaming returned→oQ
open World renaming cell?→oT
open Go renaming World→oU,Value→oV
variable{l:List Tk}{u:FrameMode}{o:Obj}{B c c2 k mb n s:Nat}{X:Nat->Prop}{w' w2:oU}{e t:TypeId}{cs tmps:Array oV}{C D:DataW Unit}{x:Bl}{xs:List oV}{tb:Option Nat}{dv kv rv:oV}{rs:List Bu}{i:List PanicEntry}{P:Program}
section
open Go.RowKit Go.Proofs.Tryz Go.Maps
def nB{w:oU}{j l:Nat}{p:Addr}{u v:oV}{a b:List AP}(ha:w.ownsRow j 9 1 u a.length (a.map Nv))(i:w.ownsRow l 9 1 v b.length (b.map Nv))(I:w.cell? p=oM u):() 154 #[v,oI (oM p)] w fun e w'=>e=oQ (oK (a==b))/\∃q,w'=w.drewN q:=by
 have o:=Hd (fM ha i);clear ha i;go_enter func154,ntmps154
 go_wp2_with (go_at_call 155;refine o.mono ?_;intro e w' C;obtain⟨rfl,t⟩:=C)
 go_ret;exact⟨rfl,t⟩
def fB{o:Type}{p:o->Bool}{l:List o}{x:o}(I:l[k]?=oM x)(C:p x=false)(t:∀j y,j<k->l[j]?=oM y->p y=false):∀j y,j<k+1->l[j]?=oM y->p y=false:=by
 intro j y J i;by_cases e:j=k
 ·subst e
  rw[I]at i;cases i
  exact C
 ·exact t j y nX i
def VZ{w:oU}{v:oV}{l:List BM}(H:w.ownsRow B 44 1 v l.length (l.map BM.v))(p:List AP->Bool)(g:Nat)(lb:Array oV)(eg:∀args y,(callFunc g args).run Tryz.prog y=.ok (.enter g args) y)
  (hp:∀x∈l,∀y,Below w w y->() g (#[x.v]++lb) y (fun e w'=>e=oQ (oK (p x.l))/\Below y y w')) :
  () 196 #[v,.func (.func g) #[] lb] w fun e w'=>(∃i:Int,e=oQ (oH oO i)/\((∃x∈l,p x.l=true)/\0<=i\/(∀x∈l,p x.l=false)/\i = -1))/\Below w w w':=by
 obtain⟨A,c,rfl⟩:=BK H;have a2:l.length<=9223372036854775807:=by
  rcases Bj H with⟨_,h0⟩|⟨_,c3,_,_,_,h1,h2,_⟩
  ·omega
  ·unfold maxLen at h2;omega
 have HC:=Hd (fun(h:0<l.length)=>Lz H h);have HP:=Hd hp;clear H hp;go_enter func196,ntmps196
 go_wp2;go_loopw [5,8] (fun _ i wr=>∃k:Nat,k<=l.length/\i=oH oO k/\Hid (∀j y,j<k->l[j]?=oM y->p y.l=false)/\Hid (Below w w wr)) (fun _ i _=>l.length-(intOf i).toNat)
 case atStart=>exact⟨0,AX _,rfl,Hd (fun j y P=>absurd P (Nat.not_lt_zero _)),Hd (Below.refl _ w)⟩
 case round=>
  obtain⟨k,hk,rfl,HA,o⟩:=hrel;by_cases a1:k<l.length
  ·have t:=eG a1
   generalize l[k]=x at t;have U:=mG t;obtain⟨b,c2,e1,a0⟩:=HC nX;cases e1
   have T:=a0 k x.v (by rw[pG,t];rfl);have a3:=(o.cell (p:=⟨b,k,oN⟩) (World.block_lt_of_cell? w _ T)).trans T;have J:=Hd (HP x U wr o);have HX:=Hd t;have HM:=Hd U;clear t a0 U T HC;cases C:p x.l with
   | true=>
    rw[C]at J;have HQ:=Hd C;clear C;go_wp2_with (go_at_fn g;refine J.mono ?_;rintro e w' ⟨rfl,I⟩;have R:=Hd (o.trans (I.mono o.size));clear I)
    go_ret;exact⟨⟨_,rfl,.inl ⟨⟨x,HM,HQ⟩,nX⟩⟩,R⟩
   | false=>
    rw[C]at J;have HN:=Hd (fB (p:=fun y:BM=>p y.l) HX C HA);clear C;go_wp2_with (go_at_fn g;refine J.mono ?_;rintro e w' ⟨rfl,I⟩;have R:=Hd (o.trans (I.mono o.size));clear I)
    go_roundw
    case rel=>exact⟨k+1,nX,oD,HN,R⟩
    case measure=>simp[intOf];omega
  ·obtain rfl:k=l.length:=by omega
   have HI:Hid (∀x∈l,p x.l=false):=Hd (fun x t=>by obtain⟨j,P⟩:=List.mem_iff_getElem?.1 t;exact HA j x (sG.1 P).1 P)
   go_wp2;go_ret;exact⟨⟨_,rfl,.inr ⟨HI,rfl⟩⟩,o⟩
def dW{w:oU}{v:oV}{l:List BM}(H:w.ownsRow B 44 1 v l.length (l.map BM.v))(p:List AP->Bool)(g:Nat)(lb:Array oV)(t:∀args y,(callFunc g args).run Tryz.prog y=.ok (.enter g args) y)
  (J:∀x∈l,∀y,Below w w y->() g (#[x.v]++lb) y (fun e w'=>e=oQ (oK (p x.l))/\Below y y w')) :
  () 153 #[v,.func (.func g) #[] lb] w fun e w'=>e=oQ (oK ((l.map BM.l).any p))/\Below w w w':=by
 have R:=Hd (VZ H p g lb t J);obtain⟨A,c,rfl⟩:=BK H;clear H J t;generalize l.length=n at *;have a0:Hid ((∃x∈l,p x.l=true)->(l.map BM.l).any p=true):=Hd (fun⟨x,i,j⟩=>by rw[List.any_eq_true];exact⟨x.l,List.mem_map_of_mem i,j⟩);have U:Hid ((∀x∈l,p x.l=false)->(l.map BM.l).any p=false):=Hd (fun h=>by rw[List.any_eq_false];intro y hy;obtain⟨x,o,rfl⟩:=List.mem_map.1 hy;rw[h x o];simp);go_enter func153,ntmps153
 go_wp2_with (go_at_call 196;refine R.mono ?_;intro e w' o;obtain⟨⟨a1,rfl,I⟩,C⟩:=o;have T:=Hd I;have P:=Hd C;clear I C)
 go_ret;refine⟨Cr ?_,P⟩;rcases T.out with⟨i,j⟩|⟨i,rfl⟩
 ·rw[a0.out i];simpa using j
 ·rw[U.out i];rfl
end
section
open Go.RowKit Go.Proofs.Tryz Go.Maps
def BS.past{w0 w:oU}{bb tm nm rb:Nat}{tv nv gv:oV}{b:Bd}{gs:List BM}{DT DN:DataW Unit}(h:BS w0 w bb tm nm rb tv nv gv b gs DT DN)(i:Am X w w')(h0:∀k,k<w0.heap.size->¬X k)
  (l:¬X bb) (t:¬X tm) (C:¬X nm) (J:∀g,tv.ownBlock=oM g->¬X g) (P:∀g,nv.ownBlock=oM g->¬X g) (o:∀g,gv.ownBlock=oM g->¬X g) (I:∀q∈gs,∀g,q.v.ownBlock=oM g->¬X g):BS w0 w' bb tm nm rb tv nv gv b gs DT DN where
 below:=h.below.trans (i.below h.below.size h0)
 Aj:=i.Aj h.Aj l
 ft:=i.own h.ft J
 fn:=i.own h.fn P
 fg:=i.own h.fg o
 names:=h.names
 rows q j:=i.own (h.rows q j) (I q j)
 tn:=h.tn
 tr:=h.tr
 nr:=h.nr
 mt:=Ed h.mt i t
 mn:=Ed h.mn i C
 pt:=h.pt
 pn:=h.pn
 b0:=h.b0
 b1:=h.b1
 lt:=h.lt
 ln:=h.ln
 lr:=h.lr
def NT(bb tm nm:Nat)(tv nv gv:oV)(k:Nat):Prop:=Dy bb tm nm tv nv k\/gv.ownBlock=oM k
def BO.MB{w:oU}{bb tm nm:Nat}{tv nv l j:oV}(o:BO w tv l)(t:BO w nv j):∀i,i<w.heap.size->Dy bb tm nm l j i->Dy bb tm nm tv nv i:=by
 intro i C h;rcases h with h|h|h|h|h
 ·exact .inl h
 ·exact .inr (.inl h)
 ·exact .inr (.inr (.inl h))
 ·rcases o i h with h|h
  ·exact .inr (.inr (.inr (.inl h)))
  ·omega
 ·rcases t i h with h|h
  ·exact .inr (.inr (.inr (.inr h)))
  ·omega
def BO.next{w i:oU}{u v x:oV}(j:BO w u v)(l:BO i v x)(t:w.heap.size<=i.heap.size):BO w u x:=by
 intro k o;rcases l k o with h|h
 ·exact j k h
 ·exact .inr (AW t h)
structure Gf(w0 w:oU)(bb tm nm rb:Nat)(tv0 nv0 gv:oV)(gs:List BM)(xb sb:Nat)(sv:oV)(p:Nat)(left:AP)(done:List AP)(b:Bd)(tv nv xv:oV)(DT DN:DataW Unit)(wr:oU):Prop where
 at_:BS w0 wr bb tm nm rb tv nv gv b gs DT DN
 box:Ah wr xb 44 #[xv]
 JO:Ah wr sb 180 #[sv,p]
 own:wr.ownsRow w 9 1 xv (done.length+1) ((left::done).map Nv)
 xt:∀k,xv.ownBlock=oM k->¬tv.ownBlock=oM k
 xn:∀k,xv.ownBlock=oM k->¬nv.ownBlock=oM k
 AA:Am (Dy bb tm nm tv0 nv0) w wr
 nt:BO w tv0 tv
 nn:BO w nv0 nv
 hx:w.heap.size<=xb
 hs:w.heap.size<=sb
 h0:w0.heap.size<=w.heap.size
 hg:∀k,gv.ownBlock=oM k->k<w.heap.size
 hq:∀q∈gs,∀k,q.v.ownBlock=oM k->k<w.heap.size
def Kj{w0 w:oU}{bb tm nm rb g:Nat}{tv nv gv:oV}{b:Bd}{gs:List BM}{DT DN:DataW Unit}(h:BS w0 w bb tm nm rb tv nv gv b gs DT DN)(i:Ah w g t cs)(o:t≠140)(l:t≠9):¬Dy bb tm nm tv nv g:=by
 rintro(rfl|rfl|rfl|j|j)
 ·exact Ah.Bb i h.Aj o rfl
 ·exact GV h.mt i rfl
 ·exact GV h.mn i rfl
 ·exact CI h.ft i (Ne.symm l) j
 ·exact CI h.fn i (Ne.symm l) j
def gA{w0 w:oU}{bb tm nm rb g:Nat}{tv nv gv:oV}{b:Bd}{gs:List BM}{DT DN:DataW Unit}(h:BS w0 w bb tm nm rb tv nv gv b gs DT DN)(j:Ah w g t cs)(l:t≠140)(o:t≠9)(C:t≠44):¬NT bb tm nm tv nv gv g:=by
 rintro(i|i)
 ·exact Kj h j l o i
 ·exact CI h.fg j (Ne.symm C) i
namespace Gf
variable {w0 w wr:oU} {bb tm nm rb:Nat} {tv0 nv0 gv:oV} {gs:List BM} {xb sb:Nat} {sv:oV} {p:Nat} {left:AP} {done:List AP} {b:Bd} {tv nv xv:oV} {DT DN:DataW Unit}
def later(h:Gf w0 w bb tm nm rb tv0 nv0 gv gs xb sb sv p left done b tv nv xv DT DN wr)(j:Below wr wr w'):Gf w0 w bb tm nm rb tv0 nv0 gv gs xb sb sv p left done b tv nv xv DT DN w':=by have i:Am (fun _=>False) wr w':=.AJ j;exact⟨h.at_.AA i (fun _ _=>id),i.Aj h.box id,i.Aj h.JO id,i.own h.own (fun _ _=>id),h.xt,h.xn,h.AA.next (.AJ j),h.nt,h.nn,h.hx,h.hs,h.h0,h.hg,h.hq⟩
def alloc(h:Gf w0 w bb tm nm rb tv0 nv0 gv gs xb sb sv p left done b tv nv xv DT DN wr)(o:Obj):Gf w0 w bb tm nm rb tv0 nv0 gv gs xb sb sv p left done b tv nv xv DT DN (wr.alloc o):=h.later (AG wr o)
def drew(h:Gf w0 w bb tm nm rb tv0 nv0 gv gs xb sb sv p left done b tv nv xv DT DN wr):Gf w0 w bb tm nm rb tv0 nv0 gv gs xb sb sv p left done b tv nv xv DT DN wr.drew:=h.later (IC wr)
def sym(h:Gf w0 w bb tm nm rb tv0 nv0 gv gs xb sb sv p left done b tv nv xv DT DN wr){J:Bd}{t o:oV}{I:DataW Unit}(ha:BS w0 w2 bb tm nm rb t o gv J gs I C)(l:Am (Dy bb tm nm tv nv) wr w2)(T:BO wr tv t)(P:BO wr nv o) :
  Gf w0 w bb tm nm rb tv0 nv0 gv gs xb sb sv p left done J t o xv I C w2:=by
 have a0:∀k,xv.ownBlock=oM k->¬Dy bb tm nm tv nv k:=by
  rintro k i (rfl|rfl|rfl|j|j)
  ·exact CI h.own h.at_.Aj nY i
  ·exact Gg h.at_.mt h.own i
  ·exact Gg h.at_.mn h.own i
  ·exact h.xt k i j
  ·exact h.xn k i j
 have R:=h.AA.size;refine⟨ha,l.Aj h.box (Kj h.at_ h.box nY nY),l.Aj h.JO (Kj h.at_ h.JO nY nY),l.own h.own a0,?_,?_,h.AA.trans l (fun a1 U=>h.nt.MB h.nn a1 U),h.nt.next T R,h.nn.next P R,h.hx,h.hs,h.h0,h.hg,h.hq⟩
 ·intro k i j
  rcases T k j with e|e
  ·exact h.xt k i e
  ·have:=(B7 h.own k i).2;omega
 ·intro k i j
  rcases P k j with e|e
  ·exact h.xn k i e
  ·have:=(B7 h.own k i).2;omega
def app(h:Gf w0 w bb tm nm rb tv0 nv0 gv gs xb sb sv p left done b tv nv xv DT DN wr){C:Option Addr}{s:AP}
  (ho:w2.ownsRow w 9 1 (oG C (done.length+1+1) c2) (done.length+1+1) ((left::done).map Nv++[Nv s]))
  (U:(wr.alloc o).grownBy w2 xv.ownBlock/\((Value.slice C (done.length+1+1) c2).ownBlock=xv.ownBlock\/(Value.slice C (done.length+1+1) c2).ownBlock=oM (wr.alloc o).heap.size)) :
  Gf w0 w bb tm nm rb tv0 nv0 gv gs xb sb sv p left (done++[s]) b tv nv (oG C (done.length+1+1) c2) DT DN (w2.setCell (xb,0) (oG C (done.length+1+1) c2)):=by
 have T:Am (fun k=>xv.ownBlock=oM k) wr w2:=((Am.refl _ wr).alloc o).next (.CM U.1);have J:Am (fun k=>xv.ownBlock=oM k\/k=xb) wr (w2.setCell (xb,0) (oG C (done.length+1+1) c2)):=(T.mono (fun i hi=>.inl hi)).set (p:=⟨xb,0,oN⟩) (.inr (.inr rfl)) _;have I:∀k,xv.ownBlock=oM k->w.heap.size<=k/\k<wr.heap.size:=fun k t=>B7 h.own k t
 have a1:=h.box.lt;have a0:=h.h0;have hx:=h.hx;have R:¬xv.ownBlock=oM xb:=CI h.own h.box nY;have e2:¬(xv.ownBlock=oM sb\/sb=xb):=by
  rintro(e|rfl)
  ·exact CI h.own h.JO nY e
  ·exact Ah.Bb h.JO h.box nY rfl
 have P:∀k,(Value.slice C (done.length+1+1) c2).ownBlock=oM k->xv.ownBlock=oM k\/wr.heap.size<=k:=by
  intro k t;rcases U.2 with e|e
  ·exact .inl (e▸t)
  ·rw[e]at t;cases t;exact .inr oA
 refine⟨h.at_.past J ?_ ?_ ?_ ?_ ?_ ?_ ?_ ?_,?_,J.Aj h.JO e2,?_,?_,?_,(h.AA.trans (J.mono (Y:=fun k=>w.heap.size<=k) ?_) (fun i hi j=>by omega)),h.nt,h.nn,h.hx,h.hs,h.h0,h.hg,h.hq⟩
 ·rintro k t (j|j)
  ·have:=(I k j).1;omega
  ·omega
 ·rintro(j|j)
  ·exact CI h.own h.at_.Aj nY j
  ·subst j;exact Ah.Bb h.box h.at_.Aj nY rfl
 ·rintro(j|j)
  ·exact Gg h.at_.mt h.own j
  ·exact GV h.at_.mt h.box j
 ·rintro(j|j)
  ·exact Gg h.at_.mn h.own j
  ·exact GV h.at_.mn h.box j
 ·rintro g l (j|j)
  ·exact h.xt g j l
  ·subst j;exact CI h.at_.ft h.box nY l
 ·rintro g l (j|j)
  ·exact h.xn g j l
  ·subst j;exact CI h.at_.fn h.box nY l
 ·rintro g l (j|j)
  ·have:=h.hg g l;have:=(I g j).1;omega
  ·have:=h.hg g l;omega
 ·rintro q hq g l (j|j)
  ·have:=h.hq q hq g l;have:=(I g j).1;omega
  ·have:=h.hq q hq g l;omega
 ·simpa using(T.Aj h.box R).Ba 0 (oG C (done.length+1+1) c2)
 ·rw[show (done++[s]).length+1=done.length+1+1 by simp,show (left::(done++[s])).map Nv=(left::done).map Nv++[Nv s] by simp]
  refine EB ho ?_ _;intro e;rcases P _ e with e|e
  ·exact R e
  ·simp at e;omega
 ·intro k t j
  rcases P k t with e|e
  ·exact h.xt k e j
  ·have:=(B7 h.at_.ft k j).2;omega
 ·intro k t j
  rcases P k t with e|e
  ·exact h.xn k e j
  ·have:=(B7 h.at_.fn k j).2;omega
 ·rintro i (j|j)
  ·exact(I i j).1
  ·omega
end Gf
def Zb{w0 w:oU}{bb tm nm rb:Nat}{tv nv gv xv:oV}{b:Bd}{gs:List BM}{DT DN:DataW Unit}{x:List AP}{l:Option Addr}
  (h:BS w0 w bb tm nm rb tv nv gv b gs DT DN) (hx:w.ownsRow w0 9 1 xv x.length (x.map Nv)) (a1:∀k,xv.ownBlock=oM k->¬tv.ownBlock=oM k) (a0:∀k,xv.ownBlock=oM k->¬nv.ownBlock=oM k) (a3:b.R.length<300)
  (ho:w2.ownsRow w0 44 1 (oG l (gs.length+1) c2) (gs.length+1) (gs.map BM.v++[xv]))
  (hg:(w.alloc o).grownBy w2 gv.ownBlock/\((Value.slice l (gs.length+1) c2).ownBlock=gv.ownBlock\/(Value.slice l (gs.length+1) c2).ownBlock=oM (w.alloc o).heap.size)) :
  BS w0 (w2.setCell (bb,7) (oG l (gs.length+1) c2)) bb tm nm rb tv nv (oG l (gs.length+1) c2) {b with R:=b.R++[x]} (gs++[⟨xv,x⟩]) DT DN/\Am (fun k=>gv.ownBlock=oM k\/k=bb) w (w2.setCell (bb,7) (oG l (gs.length+1) c2)):=by
 have hX:Am (fun k=>gv.ownBlock=oM k) w w2:=((Am.refl _ w).alloc o).next (.CM hg.1);have I:Am (fun k=>gv.ownBlock=oM k\/k=bb) w (w2.setCell (bb,7) (oG l (gs.length+1) c2)):=(hX.mono (fun a4 hi=>.inl hi)).set (p:=⟨bb,7,oN⟩) (.inr (.inr rfl)) _;have U:¬gv.ownBlock=oM bb:=CI h.fg h.Aj nY;have J:∀{n:Nat} {v:oV} {T:List oV},w.ownsRow w0 9 1 v n T->(w2.setCell (bb,7) (oG l (gs.length+1) c2)).ownsRow w0 9 1 v n T:=by
  intro n v T R;refine I.own R ?_;rintro k t (j|rfl)
  ·exact Gs R h.fg nY k t j
  ·exact CI R h.Aj nY t
 have a2:=h.Aj.lt;refine⟨⟨?_,?_,J h.ft,J h.fn,?_,by rw[BB,h.names];rfl,?_,h.tn,?_,?_,Ed h.mt I ?_,Ed h.mn I ?_,h.pt,h.pn,h.b0,h.b1,h.lt,h.ln,oC⟩,I⟩
 ·refine h.below.trans (I.below h.below.size ?_)
  rintro k t (j|j)
  ·have:=(B7 h.fg k j).1;omega
  ·have:=h.b0.1;omega
 ·simpa using(hX.Aj h.Aj U).Ba 7 (oG l (gs.length+1) c2)
 ·rw[show (gs++[(⟨xv,x⟩:BM)]).length=gs.length+1 by simp,BB]
  refine EB ho ?_ _;intro e;rcases hg.2 with P|P
  ·exact U (P▸e)
  ·rw[P]at e;injection e with e;simp at e;omega
 ·intro q i
  rcases mA.1 i with i|i
  ·exact J (h.rows q i)
  ·rw[mS.1 i];exact J hx
 ·intro q i k t C
  rcases mA.1 i with i|i
  ·exact h.tr q i k t C
  ·rw[mS.1 i]at C;exact a1 k C t
 ·intro q i k t C
  rcases mA.1 i with i|i
  ·exact h.nr q i k t C
  ·rw[mS.1 i]at C;exact a0 k C t
 ·rintro(j|j)
  ·exact Gg h.mt h.fg j
  ·exact GV h.mt h.Aj j
 ·rintro(j|j)
  ·exact Gg h.mn h.fg j
  ·exact GV h.mn h.Aj j
end
variable{rb:Nat}{DN DT:DataW Unit}{sv:oV}
section
open Go.RowKit Go.Proofs.Tryz Go.Maps
def Xp{w:oU}{g:Nat}(h:Ah w g e cs)(j:B<=g)(i:cs.size=n)(l:n<=maxLen):w.ownsRow B e 1 (oG (g,0) n n) n cs.toList:=by refine⟨by simp[i],.inr ⟨g,n,cs,rfl,j,h,Ay _,l,by simp[i],?_⟩⟩;rw[Da (by simp[i])]
def Y5:El Tryz.prog 138 44 1 24:=El.of (z:=oG oN 0 0) underlying138 nZ rfl nY
def lT(i w:oU)(j C p rb:Nat)(tv nv l:oV)(r:Except Bp Bd)(e:Ending)(w':oU):Prop:=
 Below i i w'/\match r with
 | .ok b=>e=oQ (.tuple #[])/\∃I t o R P J,BS i w' j C p rb I t o b R P J/\Am (NT j C p tv nv l) w w'/\BO w tv I/\BO w nv t/\BO w l o
 | .error f=>BY f e
def Of{w:oU}{g:Nat}{t:Tk}(h:w.ownsRow B 170 3 (oG (g,0) l.length c) l.length (l.flatMap Tk.cells))(P:l[k]?=oM t) :
  oT w (g,k*3)=oM (oH oO t.k)/\oT w (g,k*3+1)=oM (oJ (str t.s))/\oT w (g,k*3+2)=oM (oH oO t.p):=by
 obtain⟨J,R⟩:=sG.1 P;have i:∀j,j<3->(l.flatMap Tk.cells)[k*3+j]?=(Tk.cells t)[j]?:=fun j I=>by rw[CP Tk.cells 3 Tk.MW l k j J I,R]
 have o:=Bh h (k*3) nX;have p:=Bh h (k*3+1) nX;have C:=Bh h (k*3+2) nX;rw[o,p,C,i 1 nX,i 2 nX];have:=i 0 nX;rw[Nat.add_zero]at this;rw[this];exact⟨rfl,rfl,rfl⟩
def Jt{w:oU}{v:oV}(h:w.ownsRow B e s v n xs)(i:0<n):∃g c,v=oG (oM ⟨g,0,oN⟩) n c:=by
 rcases Bj h with⟨rfl,h0⟩|⟨g,c,rfl,_⟩
 ·omega
 ·exact⟨g,c,rfl⟩
def aS{R w:oU}{bb tm nm:Nat}{tv nv gv:oV}{b:Bd}{j:List BM}(h:BS R w bb tm nm rb tv nv gv b j DT DN)(hr:DP R B rb mb tb l x dv kv sv rv rs D)(ai:rs.map Bu.r=x.rules)
  (left:AP) (q:GS) (hq:IM R B q) (aj:∀t∈q.s.l,t.s.length<=8192) (c8:q.s.l.length<=100000) :
  () 102 #[(bb,0),oJ (str left),.agg #[q.v,q.s.p]] w (lT R w bb tm nm rb tv nv gv (DS (leftOf x) b left q.s)):=by
 obtain⟨c0,c1,c2,c3,c4,c7,bo⟩:=h.cells;have ay:j.length=b.R.length:=by rw[<-h.names,lM]
 have a1:R.ownsRow B 170 3 q.v q.s.l.length (q.s.l.flatMap Tk.cells):=hq;obtain⟨As,cs,ab⟩:=BK a1;obtain⟨Ag,cg,rfl⟩:=BK h.fg;by_cases a3:300<=b.R.length
 ·have q1:(300:Int)<=(j.length:Int):=by omega
  have HE:Hid (DS (leftOf x) b left q.s=.error (7,q.s.p)):=Hd (by simp[DS,a3]);have HA:=Hd (h.alloc (oP #[q.v,q.s.p] 180));rw[ab]at HA ⊢;clear h hr ai hq aj a1 ay a3;generalize j.length=n at *;generalize q.s.l.length=n2 at *;go_enter func102,ntmps102
  go_wp2_with (go_at_call 150;refine(Eg _ _ _).mono ?_;rintro e w' ⟨rfl,a5⟩;subst a5)
  refine⟨rfl,HA.below,?_⟩;rw[HE.out];exact BY.of rfl rfl
 ·have q1:¬(300:Int)<=(j.length:Int):=by omega
  have bp:b.R.length<300:=by omega
  have bc:Hid (∀p,D5 (leftOf x) b 0 q.s.l=.ok p->p.R=b.R->DS (leftOf x) b left q.s=if b.R.contains (left::q.s.l.map Tk.s) then .error (8,q.s.p) else .ok {p with R:=p.R++[left::q.s.l.map Tk.s]}):=Hd (fun p o P=>by unfold DS;rw[if_neg a3,o];simp only;rw[P]);have bd:Hid (∀f,D5 (leftOf x) b 0 q.s.l=.error f->DS (leftOf x) b left q.s=.error f):=Hd (fun f o=>by unfold DS;rw[if_neg a3,o]);have b4:=h.below.size;have b3:Gf R w bb tm nm rb tv nv (oG Ag j.length cg) j (w.heap.size+1+1) w.heap.size q.v q.s.p left [] b tv nv (oG (w.heap.size+1,0) 1 1) DT DN (((w.alloc (oP #[q.v,q.s.p] 180)).alloc (oP #[oJ (str left)] 9)).alloc (oP #[oG (w.heap.size+1,0) 1 1] 44)):=by
   have k1:=Ah.new w 180 #[q.v,q.s.p];have k2:=Ah.new (w.alloc (oP #[q.v,q.s.p] 180)) 9 #[oJ (str left)];have k3:=Ah.new ((w.alloc (oP #[q.v,q.s.p] 180)).alloc (oP #[oJ (str left)] 9)) 44 #[oG (w.heap.size+1,0) 1 1];rw[World.size_alloc]at k2;rw[World.size_alloc,World.size_alloc]at k3;refine⟨((h.alloc _).alloc _).alloc _,k3,(k1.alloc _).alloc _,?_,?_,?_,(((Am.refl _ w).alloc _).alloc _).alloc _,BO.refl _ _,BO.refl _ _,nX,Ay _,b4,fun k C=>(B7 h.fg k C).2,fun q' bq k C=>(B7 (h.rows q' bq) k C).2⟩
   ·exact Xp (k2.alloc _) nX rfl oB
   ·rintro k C hh
    cases C
    have P:=(B7 h.ft _ hh).2;simp at P;omega
   ·rintro k C hh
    cases C
    have P:=(B7 h.fn _ hh).2;simp at P;omega
  have ar:=Hd b3;have HH:=Hd h;have HR:=Hd hr;have bh:=Hd ai;have bx:=Hd a1;have bi:=Hd aj;have HL:Hid (∀k t,q.s.l[k]?=oM t->∃g c,q.v=oG (oM ⟨g,0,oN⟩) q.s.l.length c/\∀w',Below R R w'->w'.cell? ⟨g,k*3,oN⟩=oM (oH oO t.k)/\w'.cell? ⟨g,k*3+1,oN⟩=oM (oJ (str t.s))/\w'.cell? ⟨g,k*3+2,oN⟩=oM (oH oO t.p)):=Hd (fun k t U=>by obtain⟨C,_⟩:=sG.1 U;obtain⟨g,c,hv⟩:=Jt a1 nX;refine⟨g,c,hv,fun w' a5=>?_⟩;have P:=(Am.AJ (X:=fun _=>False) a5).own a1 (fun _ _=>id);rw[hv]at P;exact Of P U)
  clear h hr ai hq aj a1 b3 ay;have bf:=Hd ab;rw[ab]at ar ⊢;clear ab c0 c1 c2 c3 c4;generalize b1:q.s.l.length=nl at *;have ae:=Hd b1;clear b1;have c6:j.length<=300:=by omega
  have c9:∀(fn:Fn) (first cap:Array oV) (w:oU),(Instr.makeFunc fn first cap).run Tryz.prog w=.ok (.func fn first cap) w:=fun _ _ _ _=>rfl
  go_enter func102,ntmps102
  go_wp2;generalize bu:(((w.alloc (oP #[oG As nl cs,q.s.p] 180)).alloc (oP #[oJ (str left)] 9)).alloc (oP #[oG (w.heap.size+1,0) 1 1] 44))=wS at *;generalize cc:w.heap.size+1+1=xb at *;clear bu c7;go_loopw [23] (fun ad wr=>∃(k:Nat) (done:List AP) (p:Bd) (b6 b5 xv:oV) (an al:DataW Unit),k<=nl/\ad=oH oO k/\done.length=k/\Hid (Gf R w bb tm nm rb tv nv (oG Ag j.length cg) j xb w.heap.size (oG As nl cs) q.s.p left done p b6 b5 xv an al wr)/\Hid (done=(q.s.l.take k).map Tk.s)/\Hid (D5 (leftOf x) b 0 q.s.l=D5 (leftOf x) p k (q.s.l.drop k))/\Hid (p.R=b.R)) (fun ad _=>nl-(intOf ad).toNat)
  case atStart=>exact⟨0,[],b,tv,nv,_,DT,DN,AX _,rfl,rfl,ar,Hd rfl,Hd rfl,Hd rfl⟩
  case round=>
   obtain⟨_,done,p,b6,b5,xv,an,al,C,rfl,rfl,I,HD,HY,a6⟩:=hrel;by_cases b0:done.length<nl
   ·obtain⟨t,U⟩:∃t,q.s.l[done.length]?=oM t:=⟨_,eG (by rw[ae.out];exact b0)⟩
    obtain⟨g,c,az,aw⟩:=HL done.length t U;obtain⟨e0,e1,e2⟩:=aw wr I.at_.below;rw[bf.out]at az;cases az
    have ax:q.s.l.drop done.length=t::q.s.l.drop (done.length+1):=by obtain⟨ag,e⟩:=sG.1 U;rw[List.drop_eq_getElem_cons ag,e]
    have ba:Hid (done++[t.s]=(q.s.l.take (done.length+1)).map Tk.s):=Hd (by obtain⟨ag,e⟩:=sG.1 U;have o:=HD.out;rw[List.take_succ_eq_append_getElem ag,e,BB,<-o];rfl)
    have bt:=bi t (mG U);have af:=Hd (I.alloc (oP #[t.k,oJ (str t.s),t.p] 170));have a9:=Hd (mx af.at_ HR bh t bt done.length (done.length:Int) rfl);have ao:=Hd (Ah.new wr 170 #[t.k,oJ (str t.s),t.p]);have au:Hid (∀r,DZ (leftOf x) p t done.length=r->D5 (leftOf x) b 0 q.s.l=match r with | .error e=>.error e | .ok b2=>D5 (leftOf x) b2 (done.length+1) (q.s.l.drop (done.length+1))):=Hd (fun r hr=>by rw[HY.out,ax,D5,hr];cases r<;>rfl);clear U aw ax
    obtain⟨Ax,cx,ak⟩:=BK I.own;subst ak;cases i:DZ (leftOf x) p t done.length with
    | error f=>
     have HE:=Hd (bd f (au _ i));rw[i]at a9;clear i;go_wp2_with (go_at_call 152;refine a9.mono ?_;intro e w2 hx;obtain⟨a0,hx⟩:=hx;have hx:e=_:=hx;subst hx)
     refine⟨rfl,a0,?_⟩;rw[HE.out];exact BY.of rfl rfl
    | ok b2=>
     have bl:=Hd (au _ i);have b9:Hid (b2.R=b.R):=Hd (by
      have o:=a6.out;unfold DZ at i;split at i
      ·cases i
      split at i
      ·injection i with i;rw[<-i];exact o
      split at i
      ·split at i
       · cases i
       · injection i with i;rw[<-i];exact o
      split at i
      ·injection i with i;rw[<-i];exact o
      ·cases i)
     rw[i]at a9;clear i;have ca:=I.AA.size;go_wp2_with (first
      | (
        go_at_call 152;refine a9.mono ?_;intro e w2 hx;obtain⟨a0,rfl,bw,bv,b8,b7,z1,z2,z3,z4⟩:=hx
        have a2:=Hd (af.sym z1 z2 z3 z4);have bk:=Hd (z2.Aj ao (Kj af.at_ ao nY nY));have x1:=bk.cell 1;have y0:=a2.box.cell 0;have y1:=a2.box.frozen 0;have br:=z2.size;simp at x1 y0 br;clear a0 z1 z2 z3 z4)
      | (
        at_builtin;refine DC OW (.tmp 32) (.tmp 35) rfl rfl (base:=w.heap.size) (n:=done.length+1) (m:=1) (N:=done.length+1+1) (xs:=(left::done).map Nv) (news:=[Nv t.s]) rfl rfl (a2.own.alloc _) (PT w2 _) rfl oB nX oC ?_
        intro A3 c3 w3 r1 r2 r3;have HF:=Hd (a2.app r1 r3);have ah:=r2.Aj (a2.box.alloc _) (.inr nY);have z0:=ah.cell 0;have zf:=ah.frozen 0;simp at z0;clear r1 r2 r3 ah))
     go_roundw
     case rel=>exact⟨done.length+1,done++[t.s],b2,bw,bv,_,b8,b7,nX,oD,oA,HF,ba,bl,b9⟩
     case measure=>simp[intOf];omega
   ·obtain rfl:nl=done.length:=by omega
    have HX:Hid (done=q.s.l.map Tk.s):=Hd (by have o:=HD.out;rw[Da (by have:=ae.out;omega)]at o;exact o)
    have bj:Hid (D5 (leftOf x) b 0 q.s.l=.ok p):=Hd (by have o:=HY.out;rw[List.drop_of_length_le (by have:=ae.out;omega)]at o;exact o)
    have a8:=Hd (dW I.at_.fg (fun l=>(left::done)==l) 154 #[(xb,0)] (fun _ _=>by kernel_rfl) (fun u hu y hy=>by have o:=I.later hy;refine(nB (p:=⟨xb,0,oN⟩) (a:=left::done) o.own (o.at_.rows u hu) (o.box.cell 0)).mono ?_;rintro e w' ⟨P,n,rfl⟩;exact⟨P,⟨rfl,rfl,rfl,Ay _,fun _ _=>rfl⟩⟩))
    have a7:Hid (b.R.contains (left::q.s.l.map Tk.s)=(j.map BM.l).any fun l=>(left::done)==l):=Hd (by rw[I.at_.names,a6.out,<-HX.out];exact List.contains_eq_any_beq)
    have aq:=Hd (bc p bj a6);have bn:p.R.length<300:=by rw[a6.out];exact bp
    obtain⟨Ax,cx,ak⟩:=BK I.own;subst ak;obtain⟨c0,c1,c2,c3,c4,c7,av⟩:=I.at_.cells;clear b0 bo a3;cases aa:(j.map BM.l).any fun l=>(left::done)==l with
    | true=>
     rw[aa]at a8 a7;clear aa;have HE:Hid (DS (leftOf x) b left q.s=.error (8,q.s.p)):=Hd (by rw[aq.out,a7.out];rfl);go_wp2_with (first
      | (
        go_at_call 153;refine a8.mono ?_;rintro e w3 ⟨rfl,a4⟩
        have T:=Hd (I.later a4);have y1:=T.JO.cell 1;simp at y1;clear a4)
      | (go_at_call 150;refine(Eg _ _ _).mono ?_;rintro e w' ⟨rfl,a5⟩;subst a5))
     refine⟨rfl,T.at_.below,?_⟩;rw[HE.out];exact BY.of rfl rfl
    | false=>
     rw[aa]at a8 a7;clear aa;have HE:Hid (DS (leftOf x) b left q.s=.ok {p with R:=p.R++[left::done]}):=Hd (by rw[aq.out,a7.out,<-HX.out];rfl);go_wp2_with (
          go_at_call 153;refine a8.mono ?_;rintro e w3 ⟨rfl,a4⟩
          have T:=Hd (I.later a4);clear a4)
     clear c0 c1 c2 c3 c4 c7 av;obtain⟨c0,c1,c2,c3,c4,c7,av⟩:=T.at_.cells;have y0:=T.box.cell 0;simp at y0;have cd:=T.box.lt;have J:=Hd T.drew;have cb:=T.AA.size;have bz:=j.length;go_region_law (go_loud (
           refine ER Y5 (.tmp 51) (.tmp 53) ?_ ?_ (base:=R.heap.size) (n:=j.length) (m:=1) (N:=j.length+1) (v:=oG Ag j.length cg) (src:=oG (w3,0) 1 1) (xs:=j.map BM.v) (news:=[oG Ax (done.length+1) cx]) ?_ ?_ ?_ ?_ ?_ ?_ ?_ ?_ ?_
           ·rfl
           ·rfl
           ·rfl
           ·rfl
           ·exact J.at_.fg.alloc _
           ·exact Be.Aj (c:=1) (Ah.new w3.drew 44 #[oG Ax (done.length+1) cx]) rfl oE
           ·rfl
           ·unfold maxLen;omega
           ·omega
           ·simp;omega
           intro A4 bm w4 q1 q2 q3;have HF:=Hd (Zb (x:=left::done) J.at_ (ID J.own b4) J.xt J.xn bn q1 q3);have be:Hid (BO w (oG Ag j.length cg) (oG A4 (j.length+1) bm)):=Hd (fun k C=>by
            rcases q3.2 with e|e
            ·exact .inl (e▸C)
            ·rw[e]at C;cases C;exact .inr oC)
           have hX:Am (fun k=>(Value.slice Ag j.length cg).ownBlock=oM k) w3.drew w4:=((Am.refl _ w3.drew).alloc (oP #[oG Ax (done.length+1) cx] 44)).next (.CM q3.1);have a0:=hX.Aj J.at_.Aj (CI J.at_.fg J.at_.Aj nY);have z7:=a0.cell 7;have zf:=a0.frozen 7;simp at z7;clear q1 q2 q3 hX a0))
     all_goals go_wp2
     all_goals go_end0
     all_goals refine⟨HF.1.below,?_⟩
     all_goals rw[HE.out]
     all_goals refine⟨rfl,_,_,_,_,_,_,HF.1,?_,J.nt,J.nn,be⟩
     all_goals exact(J.AA.mono (fun _ h=>.inl h)).next (HF.2.mono (fun ad hi=>hi.elim .inr (fun h=>.inl (.inl h))))
end
section
open Go.RowKit Go.Proofs.Tryz Go.Maps
def He(b:Bd):Except Bp (List AP)->Except Bp Bd
 | .ok T=>.ok {b with T:=T}
 | .error f=>.error f
def OY{b:Bd}{t:Tk}(i:t.s ∉ b.T):Hy b t=match Cy b.T t with | .error e=>.error e | .ok T=>.ok {b with T:=T}:=by
 unfold Hy Cy;rw[if_neg (show ¬b.T.contains t.s=true by simpa using i)];by_cases h:120<=b.T.length
 ·rw[if_pos h,if_pos h]
 ·rw[if_neg h,if_neg h]
def PD{m:Nat}{st:Tk}(h:B5 x=oM (m,st)):(∃r,x.marks=m::r)/\∃r,x.starts=st::r:=by
 unfold B5 at h;split at h
 ·rename_i l o
  injection h with h;injection h with i j;subst i;subst j;exact⟨⟨_,l⟩,⟨_,o⟩⟩
 ·cases h
theorem WZ(j:x.marks.length=x.starts.length)(h:B5 x=oN):x.starts.length=0:=by
 unfold B5 at h;split at h
 ·cases h
 ·rename_i l
  cases i:x.marks with
  | nil=>rw[i]at j;simpa using j.symm
  | cons a r=>
   cases o:x.starts with
   | nil=>rfl
   | cons s q=>exact absurd o (fun e=>l a r s q i e)
def O3{T w:oU}{i R P:Nat}{tv nv C:oV}{b:Bd}{p:List BM}{l j:DataW Unit}(h:BS T w i R P rb tv nv C b p l j)(t:Tk)(I:120<=b.T.length) :
  () 195 #[(i,0),.agg #[t.k,oJ (str t.s),t.p]] w fun e w'=>BY (7,t.p) e/\Below w w w':=by
 obtain⟨A,c,rfl⟩:=BK h.ft;have o:=Hd (AG w (oP #[t.k,oJ (str t.s),t.p] 170));obtain⟨U,c1,c2,c3,c4,c7,a0⟩:=h.cells;have q1:(120:Int)<=(b.T.length:Int):=by omega
 clear h I;generalize b.T.length=n at *;go_enter func195,ntmps195
 go_wp2_with (go_at_call 150;refine(Eg _ _ _).mono ?_;rintro e w' ⟨rfl,J⟩;subst J)
 exact⟨rfl,BY.of rfl rfl,o⟩
def Yk(R w:oU)(j o l rb:Nat)(tv nv I:oV)(C:List BM)(r:Except Bp Bd)(e:Ending)(w':oU):Prop:=
 ∃i P J t p,BS R w' j o l rb P J I i C t p/\Am (Dy j o l tv nv) w w'/\match r with
 | .ok b=>e=oQ (.tuple #[])/\i=b
 | .error f=>BY f e
def YN{w0 w:oU}{bb tm nm:Nat}{tv nv gv:oV}{b:Bd}{gs:List BM}(h:BS w0 w bb tm nm rb tv nv gv b gs DT DN)(hr:DP w0 B rb mb tb l x dv kv sv rv rs D)(br:rs.map Bu.r=x.rules)
  (bt:x.marks.length=x.starts.length) (bu:∀t∈x.decl,t.s.length<=8192) (bv:∀t∈x.starts,t.s.length<=8192) :
  () 151 #[(bb,0)] w (Yk w0 w bb tm nm rb tv nv gv gs (He b (BN (leftOf x) (B5 x) x.decl b.T))):=by
 obtain⟨c0,c1,c2,c3,c4,c7,aa⟩:=h.cells;obtain⟨k1,k2,k3,_,_,_⟩:=(hr.later h.below).Bw.A8.cells;have bz:Hid (∀J,Below w0 w0 J->oT J (rb,2)=oM kv/\oT J (rb,3)=oM sv):=Hd (fun J hb=>by obtain⟨_,a2,a3,_,_,_⟩:=(hr.later hb).Bw.A8.cells;exact⟨a2,a3⟩)
 obtain⟨As,cs,bw⟩:=BK hr.Bw.starts;obtain⟨Ad,cd,bp⟩:=BK hr.Bw.decl;have HL:Hid (∀k t,x.decl[k]?=oM t->∃g c,dv=oG (oM ⟨g,0,oN⟩) x.decl.length c/\∀J,Below w0 w0 J->oT J ⟨g,k*3,oN⟩=oM (oH oO t.k)/\oT J ⟨g,k*3+1,oN⟩=oM (oJ (str t.s))/\oT J ⟨g,k*3+2,oN⟩=oM (oH oO t.p)):=Hd (fun k t ht=>by obtain⟨hk,_⟩:=sG.1 ht;obtain⟨g,c,hv⟩:=Jt hr.Bw.decl nX;refine⟨g,c,hv,fun J a9=>?_⟩;have h2:=(Am.AJ (X:=fun _=>False) a9).own hr.Bw.decl (fun _ _=>id);rw[hv]at h2;exact Of h2 ht)
 have HM:Hid (∀m U,B5 x=oM (m,U)->∃g c,kv=oG (oM ⟨g,0,oN⟩) x.marks.length c/\0<x.marks.length/\∀J,Below w0 w0 J->oT J ⟨g,0,oN⟩=oM (oH oO m)):=Hd (fun m U P=>by
  obtain⟨⟨r,e1⟩,r2,e2⟩:=PD P;have b9:0<x.marks.length:=by rw[e1];simp
  obtain⟨g,c,hv⟩:=Jt hr.Bw.marks b9;refine⟨g,c,hv,b9,fun J a9=>?_⟩;have h2:=(Am.AJ (X:=fun _=>False) a9).own hr.Bw.marks (fun _ _=>id);rw[hv]at h2;have:=Bh h2 0 nX;rw[this,e1];rfl)
 have bl:Hid (∀m U,B5 x=oM (m,U)->∀J,Below w0 w0 J->oT J (bb,0)=oM (oI (rb,0))->() 194 #[(bb,0)] J (Sb J (Ex (leftOf x) U))):=Hd (fun m U P J a9 p=>by obtain⟨_,r2,e2⟩:=PD P;exact mW (hr.later a9) p br e2 (bv U (by rw[e2];simp)))
 have c9:Hid ((B5 x=oN/\x.starts.length=0)\/(B5 x≠oN/\0<x.starts.length)):=Hd (by
  cases P:B5 x with
  | none=>exact .inl ⟨rfl,WZ bt P⟩
  | some al=>obtain⟨_,r2,e2⟩:=PD (m:=al.1) (st:=al.2) P;exact .inr ⟨oA,by rw[e2];simp⟩)
 have c6:Hid (∀t∈x.decl,t.s.length<=8192):=Hd bu;have ct:x.decl.length<=100000:=by have:=hr.Bw.ld;omega
 have cl:x.starts.length<=100000:=by have:=hr.Bw.ls;omega
 have cu:x.marks.length<=100000:=by have:=hr.Bw.lm;omega
 have HH:=Hd h;have ca:=Hd bw;have c8:=Hd bp;clear h hr br bt bu bv c1 c2 c3 c4 c7;subst bw;subst bp;clear ca c8;generalize bq:x.decl.length=nd at *;generalize cm:x.starts.length=ns at *;generalize ck:x.marks.length=nk at *;have bk:=Hd bq;clear bq cm ck;go_enter func151,ntmps151
 go_wp2;go_loopw [2,20] (fun U ad wr=>∃(k:Nat) (ak:Option (Nat×Tk)) (n':Nat) (A':Option Addr) (c':Nat) (o:Bd) (bf be:oV) (bi bh:DataW Unit),k<=nd/\ad=oH oO k/\U=oG A' n' c'/\n'<=100000/\Hid ((ak=oN/\n'=0)\/(ak=B5 x/\ak≠oN/\0<n'))/\Hid (BS w0 wr bb tm nm rb bf be gv o gs bi bh)/\Hid (Am (Dy bb tm nm tv nv) w wr/\BO w tv bf/\BO w nv be)/\Hid (BN (leftOf x) (B5 x) x.decl b.T=BN (leftOf x) ak (x.decl.drop k) o.T)/\Hid (o.N=b.N/\o.R=b.R)) (fun _ ad _=>nd-(intOf ad).toNat)
 case atStart=>exact⟨0,B5 x,ns,_,_,b,tv,nv,DT,DN,AX _,rfl,rfl,cl,Hd (c9.imp id (fun h=>⟨rfl,h.1,h.2⟩)),HH,Hd ⟨Am.refl _ _,BO.refl _ _,BO.refl _ _⟩,Hd rfl,Hd ⟨rfl,rfl⟩⟩
 case round=>
  obtain⟨k,ak,n',A',c',o,bf,be,bi,bh,hk,rfl,rfl,cr,HO,HA,HC,HY,b7⟩:=hrel;clear c0 k1 k2 k3 aa;obtain⟨c0,c1,c2,c3,c4,c7,aa⟩:=HA.cells;by_cases b9:k<nd
  ·obtain⟨t,ht⟩:∃t,x.decl[k]?=oM t:=⟨_,eG (by rw[bk.out];exact b9)⟩
   obtain⟨g,c,cf,bm⟩:=HL k t ht;obtain⟨e0,e1,e2⟩:=bm wr HA.below;cases cf
   have a1:=c6 t (mG ht);have bo:x.decl.drop k=t::x.decl.drop (k+1):=by obtain⟨cg,e⟩:=sG.1 ht;rw[List.drop_eq_getElem_cons cg,e]
   have ar:Hid (BN (leftOf x) (B5 x) x.decl b.T=BN (leftOf x) ak (t::x.decl.drop (k+1)) o.T):=Hd (by rw[HY.out,bo]);clear ht bm bo;have ab:=Hd (Ah.new wr 170 #[t.k,oJ (str t.s),t.p]);have a6:=Hd (HA.alloc (oP #[t.k,oJ (str t.s),t.p] 170));have aq:=Hd (HC.1.alloc (oP #[t.k,oJ (str t.s),t.p] 170));have bd:wr.heap.size<(wr.alloc (oP #[t.k,oJ (str t.s),t.p] 170)).heap.size:=by simp
   generalize cn:(wr.alloc (oP #[t.k,oJ (str t.s),t.p] 170))=w1 at *;have ba:=Hd cn;clear c0 c1 c2 c3 c4 c7 aa;obtain⟨c0,c1,c2,c3,c4,c7,aa⟩:=a6.cells;obtain⟨k2,k3⟩:=bz w1 a6.below;have x0:=ab.cell 0;have x1:=ab.cell 1;have x2:=ab.cell 2;simp at x0 x1 x2;rcases HO.out with⟨ho,av⟩|⟨ho,aw,av⟩
   ·subst av
    go_wp2
    go_region
    go_wp2;obtain⟨T,R,A2,a8,ah,b6,b0,af⟩:∃(T:Option (Nat×Tk)) (R:Nat) (A2:Option Addr) (a8:Nat),Value.slice A' 0 c'=oG A2 R a8/\R<=100000/\Hid ((T=oN/\R=0)\/(T=B5 x/\T≠oN/\0<R))/\Hid (∀r,Cy o.T t=r->BN (leftOf x) (B5 x) x.decl b.T=match r with | .error e=>.error e | .ok T'=>BN (leftOf x) T (x.decl.drop (k+1)) T'):=
     ⟨oN,0,A',c',rfl,nX,Hd (.inl ⟨rfl,rfl⟩),Hd (fun r hr=>by rw[ar.out,ho,BN,hr];cases r<;>rfl)⟩
    rw[ah];clear ah;have I:=Hd a6.drew;have a4:=Hd (((Am.refl (fun _=>False) w1).drew).Aj ab id);have a0:=Hd aq.drew;clear c0 c1 c2 c3 c4 c7 aa x0 x1 x2 k2 k3 e0 e1 e2;generalize w1.drew=wz at *;have ae:Hid (∀r,Cy o.T t=r->∀f,r=.error f->He b (BN (leftOf x) (B5 x) x.decl b.T)=.error f):=Hd (fun r h1 f h2=>by rw[af.out _ h1,h2];rfl);clear HA HY ar a6 ab aq ba HO bd;obtain⟨c0,c1,c2,c3,c4,c7,aa⟩:=I.cells;have x0:=a4.cell 0;have x1:=a4.cell 1;have x2:=a4.cell 2;simp at x0 x1 x2;have ai:=Kl I.drew.mt I.pt a1
    have bx:=a4.lt;generalize wr.heap.size=xb at *;by_cases p:t.s∈o.T
    ·have HE:=Hd (ae (.error (8,t.p)) (by unfold Cy;rw[if_pos (by simpa using p)]) (8,t.p) rfl)
     rw[if_pos p]at ai;have b5:o.T.idxOf t.s+1≠0:=by omega
     generalize o.T.idxOf t.s+1=n1 at *;have q2:(0:Int)<(n1:Int):=by
      rcases Nat.eq_zero_or_pos n1 with e|e
      ·exact absurd b5 nX
      ·omega
     clear p a1
     go_region
     go_wp2_with (go_at_call 150;refine(Eg _ _ _).mono ?_;rintro e J ⟨rfl,a9⟩;subst a9)
     refine⟨rfl,_,_,_,_,_,I.drew,a0.drew,?_⟩;rw[HE.out];exact BY.of rfl rfl
    ·rw[if_neg p,show ((0:Nat):Int)=0 from rfl]at ai
     have a7:=Hd (MR I.drew t a1 p);have a5:=OY p;cases j:Cy o.T t with
     | error f=>
      obtain⟨hf,ag⟩:f=(7,t.p)/\120<=o.T.length:=by
       unfold Cy at j;rw[if_neg (by simpa using p)]at j;split at j
       ·rename_i h
        injection j with j;exact⟨j.symm,h⟩
       ·cases j
      subst hf;have b1:=Hd (O3 I.drew t ag);have HE:=Hd (ae _ j _ rfl);clear a5 j p a1 a7 ag
      go_region
      go_wp2_with (go_at_call 195;refine b1.mono ?_;intro e w2 i;obtain⟨i,C⟩:=i;have i:e=_:=i;subst i)
      refine⟨rfl,_,_,_,_,_,I.drew.AA (.AJ (X:=fun _=>False) C) (fun _ _=>id),a0.drew.next (.AJ C),?_⟩;rw[HE.out];exact BY.of rfl rfl
     | ok T2=>
      rw[j]at a5;rw[a5]at a7;have b2:=Hd (af _ j);clear a5 j p a1
      go_region
      go_wp2_with (
           go_at_call 195;refine a7.mono ?_;intro e w2 i;obtain⟨C,rfl,an,aj,ay,ax,z1,z2,z3,z4⟩:=i
           have b3:=Hd z1;have b4:Hid (Am (Dy bb tm nm tv nv) w w2/\BO w tv an/\BO w nv aj):=Hd ⟨a0.drew.trans z2 (fun ad hi=>HC.2.1.MB HC.2.2 ad hi),HC.2.1.next z3 a0.drew.size,HC.2.2.next z4 a0.drew.size⟩;clear C z1 z2 z3 z4)
      go_roundw
      case rel=>exact⟨k+1,T,R,A2,a8,_,an,aj,ay,ax,nX,oD,rfl,b6,b0,b3,b4,b2,b7⟩
      case measure=>simp[intOf];omega
   ·obtain⟨m,U,P⟩:∃m U,B5 x=oM (m,U):=by
     cases P:B5 x with
     | none=>exact absurd (ho.trans P) aw
     | some al=>exact⟨al.1,al.2,rfl⟩
    obtain⟨g2,cc,ch,cq,bn⟩:=HM m U P;have m0:=bn w1 a6.below;cases ch
    have HU:=Hd (bl m U P w1.drew a6.drew.below a6.drew.cells.1);have cj:(0:Int)<(n':Int):=by omega
    have cp:(0:Int)<(nk:Int):=by omega
    have b8:=Hd P;have az:=Hd ho;clear P ho aw bn;by_cases au:m<t.p
    ·have q1:(m:Int)<(t.p:Int):=by omega
     cases hs:Ex (leftOf x) U with
     | error f=>
      rw[hs]at HU;have HE:Hid (He b (BN (leftOf x) (B5 x) x.decl b.T)=.error f):=Hd (by rw[ar.out,az.out,b8.out,BN,if_pos au,hs];rfl);clear hs au;go_wp2
      go_region
      go_wp2_with (go_at_call 194;refine HU.mono ?_;intro e w2 i;obtain⟨C,i⟩:=i;have i:e=_:=i;subst i)
      refine⟨rfl,_,_,_,_,_,a6.drew.AA (.AJ (X:=fun _=>False) C) (fun _ _=>id),aq.drew.next (.AJ C),?_⟩;rw[HE.out];exact BY.of rfl rfl
     | ok uu=>
      rw[hs]at HU;have cb:Hid (∀r,Cy o.T t=r->BN (leftOf x) (B5 x) x.decl b.T=match r with | .error e=>.error e | .ok T'=>BN (leftOf x) oN (x.decl.drop (k+1)) T'):=Hd (fun r hr=>by rw[ar.out,az.out,b8.out,BN,if_pos au,hs];simp only;rw[hr];cases r<;>rfl);clear hs au;go_wp2
      go_region
      go_wp2_with (go_at_call 194;refine HU.mono ?_;intro e wz i;obtain⟨C,rfl⟩:=i;have ao:=Hd C;clear C)
      obtain⟨T,R,A2,a8,ah,b6,b0,af⟩:∃(T:Option (Nat×Tk)) (R:Nat) (A2:Option Addr) (a8:Nat),Value.slice oN 0 0=oG A2 R a8/\R<=100000/\Hid ((T=oN/\R=0)\/(T=B5 x/\T≠oN/\0<R))/\Hid (∀r,Cy o.T t=r->BN (leftOf x) (B5 x) x.decl b.T=match r with | .error e=>.error e | .ok T'=>BN (leftOf x) T (x.decl.drop (k+1)) T'):=
       ⟨oN,0,oN,0,rfl,nX,Hd (.inl ⟨rfl,rfl⟩),cb⟩
      rw[ah];clear ah;have I:=Hd (a6.drew.AA (.AJ (X:=fun _=>False) ao) (fun _ _=>id));have a4:=Hd (((Am.refl (fun _=>False) w1).drew.next (.AJ ao)).Aj ab id);have a0:=Hd (aq.drew.next (.AJ ao));clear c0 c1 c2 c3 c4 c7 aa x0 x1 x2 k2 k3 e0 e1 e2 HU ao;have ae:Hid (∀r,Cy o.T t=r->∀f,r=.error f->He b (BN (leftOf x) (B5 x) x.decl b.T)=.error f):=Hd (fun r h1 f h2=>by rw[af.out _ h1,h2];rfl);clear HA HY ar a6 ab aq ba HO bd;obtain⟨c0,c1,c2,c3,c4,c7,aa⟩:=I.cells;have x0:=a4.cell 0;have x1:=a4.cell 1
      have x2:=a4.cell 2;simp at x0 x1 x2;have ai:=Kl I.drew.mt I.pt a1;have bx:=a4.lt;generalize wr.heap.size=xb at *;by_cases p:t.s∈o.T
      ·have HE:=Hd (ae (.error (8,t.p)) (by unfold Cy;rw[if_pos (by simpa using p)]) (8,t.p) rfl)
       rw[if_pos p]at ai;have b5:o.T.idxOf t.s+1≠0:=by omega
       generalize o.T.idxOf t.s+1=n1 at *;have q2:(0:Int)<(n1:Int):=by
        rcases Nat.eq_zero_or_pos n1 with e|e
        ·exact absurd b5 nX
        ·omega
       clear p a1
       go_region
       go_wp2_with (go_at_call 150;refine(Eg _ _ _).mono ?_;rintro e J ⟨rfl,a9⟩;subst a9)
       refine⟨rfl,_,_,_,_,_,I.drew,a0.drew,?_⟩;rw[HE.out];exact BY.of rfl rfl
      ·rw[if_neg p,show ((0:Nat):Int)=0 from rfl]at ai
       have a7:=Hd (MR I.drew t a1 p);have a5:=OY p;cases j:Cy o.T t with
       | error f=>
        obtain⟨hf,ag⟩:f=(7,t.p)/\120<=o.T.length:=by
         unfold Cy at j;rw[if_neg (by simpa using p)]at j;split at j
         ·rename_i h
          injection j with j;exact⟨j.symm,h⟩
         ·cases j
        subst hf;have b1:=Hd (O3 I.drew t ag);have HE:=Hd (ae _ j _ rfl);clear a5 j p a1 a7 ag
        go_region
        go_wp2_with (go_at_call 195;refine b1.mono ?_;intro e w2 i;obtain⟨i,C⟩:=i;have i:e=_:=i;subst i)
        refine⟨rfl,_,_,_,_,_,I.drew.AA (.AJ (X:=fun _=>False) C) (fun _ _=>id),a0.drew.next (.AJ C),?_⟩;rw[HE.out];exact BY.of rfl rfl
       | ok T2=>
        rw[j]at a5;rw[a5]at a7;have b2:=Hd (af _ j);clear a5 j p a1
        go_region
        go_wp2_with (
             go_at_call 195;refine a7.mono ?_;intro e w2 i;obtain⟨C,rfl,an,aj,ay,ax,z1,z2,z3,z4⟩:=i
             have b3:=Hd z1;have b4:Hid (Am (Dy bb tm nm tv nv) w w2/\BO w tv an/\BO w nv aj):=Hd ⟨a0.drew.trans z2 (fun ad hi=>HC.2.1.MB HC.2.2 ad hi),HC.2.1.next z3 a0.drew.size,HC.2.2.next z4 a0.drew.size⟩;clear C z1 z2 z3 z4)
        go_roundw
        case rel=>exact⟨k+1,T,R,A2,a8,_,an,aj,ay,ax,nX,oD,rfl,b6,b0,b3,b4,b2,b7⟩
        case measure=>simp[intOf];omega
    ·have q1:¬(m:Int)<(t.p:Int):=by omega
     go_wp2
     go_region
     go_wp2;obtain⟨T,R,A2,a8,ah,b6,b0,af⟩:∃(T:Option (Nat×Tk)) (R:Nat) (A2:Option Addr) (a8:Nat),Value.slice A' n' c'=oG A2 R a8/\R<=100000/\Hid ((T=oN/\R=0)\/(T=B5 x/\T≠oN/\0<R))/\Hid (∀r,Cy o.T t=r->BN (leftOf x) (B5 x) x.decl b.T=match r with | .error e=>.error e | .ok T'=>BN (leftOf x) T (x.decl.drop (k+1)) T'):=
      ⟨ak,n',A',c',rfl,nX,Hd (.inr ⟨az,by rw[az.out,b8.out];simp,av⟩),Hd (fun r hr=>by rw[ar.out,az.out,b8.out,BN,if_neg au,hr];cases r<;>rfl)⟩
     rw[ah];clear ah au;have I:=Hd a6.drew;have a4:=Hd (((Am.refl (fun _=>False) w1).drew).Aj ab id);have a0:=Hd aq.drew;clear c0 c1 c2 c3 c4 c7 aa x0 x1 x2 k2 k3 e0 e1 e2 HU;generalize w1.drew=wz at *;have ae:Hid (∀r,Cy o.T t=r->∀f,r=.error f->He b (BN (leftOf x) (B5 x) x.decl b.T)=.error f):=Hd (fun r h1 f h2=>by rw[af.out _ h1,h2];rfl);clear HA HY ar a6 ab aq ba HO bd;obtain⟨c0,c1,c2,c3,c4,c7,aa⟩:=I.cells;have x0:=a4.cell 0;have x1:=a4.cell 1;have x2:=a4.cell 2;simp at x0 x1 x2;have ai:=Kl I.drew.mt I.pt a1
     have bx:=a4.lt;generalize wr.heap.size=xb at *;by_cases p:t.s∈o.T
     ·have HE:=Hd (ae (.error (8,t.p)) (by unfold Cy;rw[if_pos (by simpa using p)]) (8,t.p) rfl)
      rw[if_pos p]at ai;have b5:o.T.idxOf t.s+1≠0:=by omega
      generalize o.T.idxOf t.s+1=n1 at *;have q2:(0:Int)<(n1:Int):=by
       rcases Nat.eq_zero_or_pos n1 with e|e
       ·exact absurd b5 nX
       ·omega
      clear p a1
      go_region
      go_wp2_with (go_at_call 150;refine(Eg _ _ _).mono ?_;rintro e J ⟨rfl,a9⟩;subst a9)
      refine⟨rfl,_,_,_,_,_,I.drew,a0.drew,?_⟩;rw[HE.out];exact BY.of rfl rfl
     ·rw[if_neg p,show ((0:Nat):Int)=0 from rfl]at ai
      have a7:=Hd (MR I.drew t a1 p);have a5:=OY p;cases j:Cy o.T t with
      | error f=>
       obtain⟨hf,ag⟩:f=(7,t.p)/\120<=o.T.length:=by
        unfold Cy at j;rw[if_neg (by simpa using p)]at j;split at j
        ·rename_i h
         injection j with j;exact⟨j.symm,h⟩
        ·cases j
       subst hf;have b1:=Hd (O3 I.drew t ag);have HE:=Hd (ae _ j _ rfl);clear a5 j p a1 a7 ag
       go_region
       go_wp2_with (go_at_call 195;refine b1.mono ?_;intro e w2 i;obtain⟨i,C⟩:=i;have i:e=_:=i;subst i)
       refine⟨rfl,_,_,_,_,_,I.drew.AA (.AJ (X:=fun _=>False) C) (fun _ _=>id),a0.drew.next (.AJ C),?_⟩;rw[HE.out];exact BY.of rfl rfl
      | ok T2=>
       rw[j]at a5;rw[a5]at a7;have b2:=Hd (af _ j);clear a5 j p a1
       go_region
       go_wp2_with (
            go_at_call 195;refine a7.mono ?_;intro e w2 i;obtain⟨C,rfl,an,aj,ay,ax,z1,z2,z3,z4⟩:=i
            have b3:=Hd z1;have b4:Hid (Am (Dy bb tm nm tv nv) w w2/\BO w tv an/\BO w nv aj):=Hd ⟨a0.drew.trans z2 (fun ad hi=>HC.2.1.MB HC.2.2 ad hi),HC.2.1.next z3 a0.drew.size,HC.2.2.next z4 a0.drew.size⟩;clear C z1 z2 z3 z4)
       go_roundw
       case rel=>exact⟨k+1,T,R,A2,a8,_,an,aj,ay,ax,nX,oD,rfl,b6,b0,b3,b4,b2,b7⟩
       case measure=>simp[intOf];omega
  ·obtain rfl:k=nd:=by omega
   have bc:Hid (BN (leftOf x) (B5 x) x.decl b.T=BN (leftOf x) ak [] o.T):=Hd (by have h1:=HY.out;rw[List.drop_of_length_le (by have:=bk.out;omega)]at h1;exact h1)
   have bj:Hid ({b with T:=o.T}=o):=Hd (by obtain⟨h1,h2⟩:=b7.out;cases o;simp at h1 h2;rw[<-h1,<-h2]);rcases HO.out with⟨ho,av⟩|⟨ho,aw,av⟩
   ·subst av
    have HE:Hid (He b (BN (leftOf x) (B5 x) x.decl b.T)=.ok o):=Hd (by rw[bc.out,ho];exact congrArg Except.ok bj);clear ho;go_wp2
    go_end0
    refine⟨_,_,_,_,_,HA,HC.1,?_⟩;rw[HE.out];exact⟨rfl,rfl⟩
   ·obtain⟨m,U,P⟩:∃m U,B5 x=oM (m,U):=by
     cases P:B5 x with
     | none=>exact absurd (ho.trans P) aw
     | some al=>exact⟨al.1,al.2,rfl⟩
    have HU:=Hd (bl m U P wr HA.below HA.cells.1);have cj:(0:Int)<(n':Int):=by omega
    cases hs:Ex (leftOf x) U with
    | error f=>
     rw[hs]at HU;have HE:Hid (He b (BN (leftOf x) (B5 x) x.decl b.T)=.error f):=Hd (by rw[bc.out,ho,P,BN,hs];rfl);clear hs ho aw P;go_wp2_with (go_at_call 194;refine HU.mono ?_;intro e w2 i;obtain⟨C,i⟩:=i;have i:e=_:=i;subst i)
     refine⟨rfl,_,_,_,_,_,HA.AA (.AJ (X:=fun _=>False) C) (fun _ _=>id),HC.1.next (.AJ C),?_⟩;rw[HE.out];exact BY.of rfl rfl
    | ok uu=>
     rw[hs]at HU;have HE:Hid (He b (BN (leftOf x) (B5 x) x.decl b.T)=.ok o):=Hd (by rw[bc.out,ho,P,BN,hs];exact congrArg Except.ok bj);clear hs ho aw P;go_wp2_with (go_at_call 194;refine HU.mono ?_;intro e w2 i;obtain⟨C,rfl⟩:=i;have ao:=Hd C;clear C)
     go_end0
     have I:=HA.AA (.AJ (X:=fun _=>False) ao) (fun _ _=>id);refine⟨_,_,_,_,_,I,HC.1.next (.AJ ao),?_⟩;rw[HE.out];exact⟨rfl,rfl⟩
end
section
open Go.RowKit Go.Proofs.Tryz Go.Maps
def bA(w:oU):(Instr.typeAssert .nilIface 20 130 true).run Tryz.prog w=.ok (.tuple #[.agg #[oH oO 0,oH oO 0],oK false]) w:=by kernel_rfl
def RI(e p:Int)(w:oU):(Instr.typeAssert (.iface 130 (.agg #[e,p])) 20 130 true).run Tryz.prog w=.ok (.tuple #[.agg #[e,p],oK true]) w:=by kernel_rfl
def jV(w:oU):(binOp .neq 20 .nilIface .nilIface).run Tryz.prog w=.ok (oK false) w:=by kernel_rfl
def P0(w:oU):(binOp .eql 20 .nilIface .nilIface).run Tryz.prog w=.ok (oK true) w:=by kernel_rfl
def V4(v:oV)(w:oU):(binOp .neq 20 (.iface 130 v) .nilIface).run Tryz.prog w=.ok (oK true) w:=by kernel_rfl
def TP(v:oV)(w:oU):(binOp .eql 20 (.iface 130 v) .nilIface).run Tryz.prog w=.ok (oK false) w:=by kernel_rfl
def TZ{fn:Func}{i:Frame}{cs:List Frame}{R:Ending->FrameMode->oU->Prop}{w:oU}(j:fn.results=#[])(l:i.mode=u)(h:R (oQ (.tuple #[])) u w):bodyPostS P fn i cs R .normal {tmps:=tmps,defers:=[]} (i::cs) w:=
 ⟨rfl,u,by cases i;simp_all,_,results_none j _ _ _,h⟩
def VN{fn:Func}{i:Frame}{cs:List Frame}{R:Ending->FrameMode->oU->Prop}{w:oU}{j:List PanicEntry}(l:i.mode=u)(h:R (.panicked j) u w):bodyPostS P fn i cs R (.panic j) {tmps:=tmps,defers:=[]} (i::cs) w:=
 ⟨rfl,u,by cases i;simp_all,h⟩
def Pf{fn:Func}{j:Frame}{cs:List Frame}{R:Ending->FrameMode->oU->Prop}{w:oU}(h:R (.panicked i) u w):bodyPostS P fn j cs R (.panic i) {tmps:=tmps,defers:=[]} ({j with mode:=u}::cs) w:=
 ⟨rfl,u,rfl,h⟩
def lg{w:oU}{o J:Nat}(T:oT w (o,0)=oM (oI (J,0)))(hn:n<=100000)
  (C:∀w',Below w w w'->() 149 #[(J,0)] w' fun e a3=>e=oQ n/\a3=w') :
  CallsD Tryz.prog 148 #[(o,0)] .returning w fun e u' w'=>u'=.returning/\Below w w w'/\e=if n<=8192 then .panicked [{v:=.iface 130 (.agg #[oH oO 8,n]),recovered:=false}] else oQ (.tuple #[]):=by
 have a4:o<w.heap.size:=World.block_lt_of_cell? w _ T;have a0:=bA;have a1:=jV;have a2:=P0;have t:=Hd (AG w (oP #[oH oO 0,oH oO 0] 130));have I:=Hd (C _ (AG w (oP #[oH oO 0,oH oO 0] 130)));clear C;by_cases j:n<=8192
 ·have U:(n:Int)<=8192:=by omega
  rw[if_pos j];clear j;refine callsD_of_wpS func148 rfl fun R P i=>?_
  simp only[ntmps148,List.size_toArray,List.length_cons,List.length_nil,Nat.reduceAdd,Nat.reduceSub,Array.replicate_succ,Array.replicate_zero,List.push_toArray,List.append_toArray,List.nil_append,List.cons_append];apply wpS_seq;apply wpS_region;simp[wpOpsS,go_sem,recoverD,i,Exit.thenS];refine wpS_of_wp ?_;have l:=Hd i;clear i;go_wp2_with (first
   | (go_at_call 149;refine I.mono ?_;rintro e w' ⟨rfl,rfl⟩)
   | (go_at_call 150;refine(Eg _ _ _).mono ?_;rintro e w' ⟨rfl,p⟩;subst p))
  exact VN l ⟨rfl,t,rfl⟩
 ·have U:¬(n:Int)<=8192:=by omega
  rw[if_neg j];clear j;refine callsD_of_wpS func148 rfl fun R P i=>?_
  simp only[ntmps148,List.size_toArray,List.length_cons,List.length_nil,Nat.reduceAdd,Nat.reduceSub,Array.replicate_succ,Array.replicate_zero,List.push_toArray,List.append_toArray,List.nil_append,List.cons_append];apply wpS_seq;apply wpS_region;simp[wpOpsS,go_sem,recoverD,i,Exit.thenS];refine wpS_of_wp ?_;have l:=Hd i;clear i;go_wp2_with (first
   | (go_at_call 149;refine I.mono ?_;rintro e w' ⟨rfl,rfl⟩)
   | (go_at_call 150;refine(Eg _ _ _).mono ?_;rintro e w' ⟨rfl,p⟩;subst p))
  exact TZ rfl l ⟨rfl,t,rfl⟩
def ZC{w:oU}{I R p:Nat}{k:Int}{a3:List PanicEntry}(hc:oT w (I,0)=oM (oI (R,0)))(hn:n<=100000)
  (J:∀w',Below w w w'->() 149 #[(R,0)] w' fun e a4=>e=oQ n/\a4=w') :
  CallsD Tryz.prog 148 #[(I,0)] (.panicking ({v:=.iface 130 (.agg #[k,p]),recovered:=false}::a3)) w fun e u' w'=>u'=.panicking ({v:=.iface 130 (.agg #[k,p]),recovered:=true}::a3)/\Below w w w' /\
   e=if n<=8192/\n<p then .panicked [{v:=.iface 130 (.agg #[oH oO 8,n]),recovered:=false}] else .panicked [{v:=.iface 130 (.agg #[k,p]),recovered:=false}]:=by
 have a5:I<w.heap.size:=World.block_lt_of_cell? w _ hc;have a0:=RI;have a1:=V4;have a2:=TP;have a6:∀(x:Bool) (w:oU),(Op.unary .not (oK x)).run Tryz.prog w=.ok (oK (!x)) w:=fun _ _=>rfl
 have t:=Hd (AG w (oP #[k,p] 130));have C:=Hd (J _ (AG w (oP #[k,p] 130)));clear J;by_cases j:n<=8192
 ·have q1:(n:Int)<=8192:=by omega
  by_cases o:n<p
  ·have q2:(n:Int)<(p:Int):=by omega
   rw[if_pos ⟨j,o⟩];clear j o;refine callsD_of_wpS func148 rfl fun U T i=>?_
   simp only[ntmps148,List.size_toArray,List.length_cons,List.length_nil,Nat.reduceAdd,Nat.reduceSub,Array.replicate_succ,Array.replicate_zero,List.push_toArray,List.append_toArray,List.nil_append,List.cons_append];apply wpS_seq;apply wpS_region;simp[wpOpsS,go_sem,recoverD,i,Exit.thenS];refine wpS_of_wp ?_;have P:=Hd i;clear i;go_wp2_with (first
    | (go_at_call 149;refine C.mono ?_;rintro e w' ⟨rfl,rfl⟩)
    | (go_at_call 150;refine(Eg _ _ _).mono ?_;rintro e w' ⟨rfl,l⟩;subst l))
   exact Pf ⟨rfl,t,rfl⟩
  ·have q2:¬(n:Int)<(p:Int):=by omega
   rw[if_neg (fun h=>o h.2)];clear j o;refine callsD_of_wpS func148 rfl fun U T i=>?_
   simp only[ntmps148,List.size_toArray,List.length_cons,List.length_nil,Nat.reduceAdd,Nat.reduceSub,Array.replicate_succ,Array.replicate_zero,List.push_toArray,List.append_toArray,List.nil_append,List.cons_append];apply wpS_seq;apply wpS_region;simp[wpOpsS,go_sem,recoverD,i,Exit.thenS];refine wpS_of_wp ?_;have P:=Hd i;clear i;go_wp2_with (first
    | (go_at_call 149;refine C.mono ?_;rintro e w' ⟨rfl,rfl⟩)
    | (go_at_call 150;refine(Eg _ _ _).mono ?_;rintro e w' ⟨rfl,l⟩;subst l))
   exact Pf ⟨rfl,t,rfl⟩
 ·have q1:¬(n:Int)<=8192:=by omega
  rw[if_neg (fun h=>j h.1)];clear j;refine callsD_of_wpS func148 rfl fun U T i=>?_
  simp only[ntmps148,List.size_toArray,List.length_cons,List.length_nil,Nat.reduceAdd,Nat.reduceSub,Array.replicate_succ,Array.replicate_zero,List.push_toArray,List.append_toArray,List.nil_append,List.cons_append];apply wpS_seq;apply wpS_region;simp[wpOpsS,go_sem,recoverD,i,Exit.thenS];refine wpS_of_wp ?_;have P:=Hd i;clear i;go_wp2_with (first
   | (go_at_call 149;refine C.mono ?_;rintro e w' ⟨rfl,rfl⟩)
   | (go_at_call 150;refine(Eg _ _ _).mono ?_;rintro e w' ⟨rfl,l⟩;subst l))
  exact Pf ⟨rfl,t,rfl⟩
def Q2(f:Bp)(e:Ending):Prop:=∃i:List PanicEntry,(i.all fun p=>!p.goexit)=true/\e=.panicked ({v:=.iface 130 (.agg #[f.1,f.2]),recovered:=false}::i)
def Yj(i w:oU)(j o l rb:Nat)(tv nv I:oV)(C:List BM)(r:Except Bp Bd)(e:Ending)(w':oU):Prop:=
 Below i i w'/\match r with
 | .ok b=>e=oQ (.tuple #[])/\∃P J t p,BS i w' j o l rb P J I b C t p/\Am (Dy j o l tv nv) w w'
 | .error f=>Q2 f e
def fJ{w0 w:oU}{i U T:Nat}{tv nv gv:oV}{b:Bd}{gs:List BM}(h:BS w0 w i U T rb tv nv gv b gs DT DN)(hr:DP w0 B rb mb tb l x dv kv sv rv rs D)(a4:rs.map Bu.r=x.rules)
  (a5:x.marks.length=x.starts.length) (a6:∀t∈x.decl,t.s.length<=8192) (a8:∀t∈x.starts,t.s.length<=8192) (hT:b.T=[]) (a7:DI x.marks<=100000) :
  () 100 #[(i,0)] w (Yj w0 w i U T rb tv nv gv gs (He b (GF x))):=by
 have a2:=Hd (h.alloc (oP #[(i,0)] 137));have a0:=Hd (Ah.new w 137 #[(i,0)]);have R:=Hd (YN a2 hr a4 a5 a6 a8);have ae:=Hd ((Am.refl (Dy i U T tv nv) w).alloc (oP #[(i,0)] 137));have HR:=Hd hr;have a3:=Hd a7;rw[hT]at R;have ai:∀(fn:Fn) (first cap:Array oV) (w:oU),(Instr.makeFunc fn first cap).run Tryz.prog w=.ok (.func fn first cap) w:=fun _ _ _ _=>rfl
 have aj:w.heap.size<(w.alloc (oP #[(i,0)] 137)).heap.size:=by simp
 have p0:=a0.cell 0;simp at p0;have HS:Hid (∀p b' aa a9 DT DN,BS w0 p i U T rb aa a9 gv b' gs DT DN->Am (Dy i U T tv nv) (w.alloc (oP #[(i,0)] 137)) p->oT p (w,0)=oM (oI (i,0))/\∀w',Below p p w'->() 149 #[(i,0)] w' fun e a1=>e=oQ (oH oO (DI x.marks))/\a1=w'):=Hd (fun p b' aa a9 DT DN ha hc=>by refine⟨(hc.Aj a0 (Kj a2 a0 nY nY)).cell 0,fun w' I=>?_⟩;have h2:=ha.AA (.AJ (X:=fun _=>False) I) (fun _ _=>id);exact nJ (HR.later h2.below) h2.cells.1)
 clear h hr a5 a6 a8 hT a7 a4;cases P:BN (leftOf x) (B5 x) x.decl [] with
 | error f=>
  rw[P]at R;have j:Hid (He b (GF x)=.error (if DI x.marks<=8192/\DI x.marks<f.2 then(8,DI x.marks) else f)):=Hd (by unfold GF;rw[P];simp only;split<;>rfl);clear P
  go_enter_defers func100,ntmps100
  go_wp2_with (go_at_call 151;refine R.mono ?_;intro e p C;obtain⟨b2,ah,ag,ad,ab,z1,z2,C⟩:=C;have C:e=_:=C;subst C)
  obtain⟨y1,y2⟩:=HS _ _ _ _ _ _ z1 z2;refine leaves_cons (f:=148) (args:=#[(w,0)]) oA (by simp[go_sem]) ?_;refine(ZC y1 a3 y2).mono ?_;rintro e u' a1 ⟨rfl,I,he⟩;subst he;have J:=(z1.AA (.AJ (X:=fun _=>False) I) (fun _ _=>id)).below;by_cases o:DI x.marks<=8192/\DI x.marks<f.2
  ·rw[if_pos o]
   rw[if_pos o]at j;simp only[raised,Leaves];refine⟨J,?_⟩;rw[j.out];exact⟨_,rfl,rfl⟩
  ·rw[if_neg o]
   rw[if_neg o]at j;simp only[raised,Leaves];refine⟨J,?_⟩;rw[j.out];exact⟨_,rfl,rfl⟩
 | ok af=>
  rw[P]at R;have j:Hid (He b (GF x)=if DI x.marks<=8192 then .error (8,DI x.marks) else .ok {b with T:=af}):=Hd (by unfold GF;rw[P];simp only;split<;>rfl);clear P
  go_enter_defers func100,ntmps100
  go_wp2_with (go_at_call 151;refine R.mono ?_;intro e p C;obtain⟨b2,ah,ag,ad,ab,z1,z2,rfl,rfl⟩:=C)
  obtain⟨y1,y2⟩:=HS _ _ _ _ _ _ z1 z2;refine leaves_cons (f:=148) (args:=#[(w,0)]) oA (by simp[go_sem]) ?_;refine(lg y1 a3 y2).mono ?_;rintro e u' a1 ⟨rfl,I,he⟩;subst he;have J:=(z1.AA (.AJ (X:=fun _=>False) I) (fun _ _=>id))
  by_cases o:DI x.marks<=8192
  ·rw[if_pos o]
   rw[if_pos o]at j;simp only[raised,Leaves];refine⟨J.below,?_⟩;rw[j.out];exact⟨_,rfl,rfl⟩
  ·rw[if_neg o]
   rw[if_neg o]at j;simp only[settle,Leaves];refine⟨_,results_none rfl _ _ _,J.below,?_⟩;rw[j.out];exact⟨rfl,_,_,_,_,J,(ae.next z2).next (.AJ I)⟩
end
section
open Go.RowKit Go.Proofs.Tryz Go.Maps
structure BJ where
 left:Nat
 v:oV
 r:List Nat
def BJ.cells(q:BJ):List oV:=[oH oO q.left,q.v]
def BJ.g(q:BJ):Nat×List Nat:=(q.left,q.r)
def BJ.MW(q:BJ):q.cells.length=2:=rfl
def nQ:El Tryz.prog 45 113 2 32:=El.of (z:=.agg #[oH oO 0,oG oN 0 0]) underlying45 nZ rfl nY
structure D6(w0 w:oU)(bb:Nat)(p1 p2 p3 tv nv gv Rv:oV)(b:Bd)(gs:List BM)(R:List BJ)(st:Int):Prop where
 below:Below w0 w0 w
 Aj:Ah w bb 140 #[p1,p2,p3,tv,nv,Rv,st,gv]
 ft:w.ownsRow w0 9 1 tv b.T.length (b.T.map Nv)
 fn:w.ownsRow w0 9 1 nv b.N.length (b.N.map Nv)
 fg:w.ownsRow w0 44 1 gv gs.length (gs.map BM.v)
 rows:∀q∈gs,w.ownsRow w0 9 1 q.v q.l.length (q.l.map Nv)
 fR:w.ownsRow w0 113 2 Rv R.length (R.flatMap BJ.cells)
 II:∀q∈R,w.ownsRow w0 3 1 q.v q.r.length (q.r.map Mark)
 names:gs.map BM.l=b.R
 b0:w0.heap.size<=bb
 lt:b.T.length<=120
 ln:b.N.length<=120
 lr:b.R.length<=300
def D6.of{w0 w:oU}{bb j i:Nat}{tv nv gv:oV}{b:Bd}{gs:List BM}{o l:DataW Unit}(h:BS w0 w bb j i rb tv nv gv b gs o l):D6 w0 w bb (rb,0) (.map (oM j)) (.map (oM i)) tv nv gv (oG oN 0 0) b gs [] 0:=
 ⟨h.below,h.Aj,h.ft,h.fn,h.fg,h.rows,World.ownsRow_nil _ _ _ _,(by simp),h.names,h.b0.1,h.lt,h.ln,h.lr⟩
namespace D6
variable {w0 w:oU} {bb:Nat} {p1 p2 p3 tv nv gv Rv:oV} {b:Bd} {gs:List BM} {R:List BJ} {st:Int}
def later(h:D6 w0 w bb p1 p2 p3 tv nv gv Rv b gs R st)(l:Below w w w'):D6 w0 w' bb p1 p2 p3 tv nv gv Rv b gs R st:=by have i:Am (fun _=>False) w w':=.AJ l;exact⟨h.below.trans (l.mono h.below.size),i.Aj h.Aj id,i.own h.ft (fun _ _=>id),i.own h.fn (fun _ _=>id),i.own h.fg (fun _ _=>id),fun q j=>i.own (h.rows q j) (fun _ _=>id),i.own h.fR (fun _ _=>id),fun q j=>i.own (h.II q j) (fun _ _=>id),h.names,h.b0,h.lt,h.ln,h.lr⟩
def drew(h:D6 w0 w bb p1 p2 p3 tv nv gv Rv b gs R st):D6 w0 w.drew bb p1 p2 p3 tv nv gv Rv b gs R st:=h.later (IC w)
def cells(h:D6 w0 w bb p1 p2 p3 tv nv gv Rv b gs R st):oT w (bb,0)=oM p1/\oT w (bb,3)=oM tv/\oT w (bb,4)=oM nv/\oT w (bb,5)=oM Rv/\oT w (bb,6)=oM (oH oO st)/\oT w (bb,7)=oM gv/\bb<w.heap.size:=
 ⟨h.Aj.cell 0,h.Aj.cell 3,h.Aj.cell 4,h.Aj.cell 5,h.Aj.cell 6,h.Aj.cell 7,h.Aj.lt⟩
def find(h:D6 w0 w bb p1 p2 p3 tv nv gv Rv b gs R st)(s:AP):() 103 #[.agg #[tv,nv,Rv,st],oJ (str s)] w fun e w'=>e=oQ (oH oO (B9 b.T b.N s))/\Below w w w':=
 Ze h.ft h.fn h.lt h.ln s
def app(h:D6 w0 w bb p1 p2 p3 tv nv gv Rv b gs R st){i:Option Addr}{q:BJ}(J:w.ownsRow w0 3 1 q.v q.r.length (q.r.map Mark))
  (ho:w2.ownsRow w0 113 2 (oG i (R.length+1) c2) (R.length+1) (R.flatMap BJ.cells++q.cells))
  (hg:(w.alloc o).grownBy w2 Rv.ownBlock/\((Value.slice i (R.length+1) c2).ownBlock=Rv.ownBlock\/(Value.slice i (R.length+1) c2).ownBlock=oM (w.alloc o).heap.size)) :
  D6 w0 (w2.setCell (bb,5) (oG i (R.length+1) c2)) bb p1 p2 p3 tv nv gv (oG i (R.length+1) c2) b gs (R++[q]) st/\Am (fun k=>Rv.ownBlock=oM k\/k=bb) w (w2.setCell (bb,5) (oG i (R.length+1) c2)):=by
 have hX:Am (fun k=>Rv.ownBlock=oM k) w w2:=((Am.refl _ w).alloc o).next (.CM hg.1);have C:Am (fun k=>Rv.ownBlock=oM k\/k=bb) w (w2.setCell (bb,5) (oG i (R.length+1) c2)):=(hX.mono (fun a1 hi=>.inl hi)).set (p:=⟨bb,5,oN⟩) (.inr (.inr rfl)) _;have U:¬Rv.ownBlock=oM bb:=CI h.fR h.Aj nY;have a0:=h.Aj.lt;have j:∀{e:TypeId} {n:Nat} {v:oV} {T:List oV},w.ownsRow w0 e 1 v n T->e≠113->e≠140->(w2.setCell (bb,5) (oG i (R.length+1) c2)).ownsRow w0 e 1 v n T:=by
  intro e n v T P h1 h2;refine C.own P ?_;rintro k I (p|rfl)
  ·exact Gs P h.fR h1 k I p
  ·exact CI P h.Aj h2 I
 refine⟨⟨?_,by simpa using(hX.Aj h.Aj U).Ba 5 (oG i (R.length+1) c2),j h.ft nY nY,j h.fn nY nY,j h.fg nY nY,fun q J=>j (h.rows q J) nY nY,?_,?_,h.names,h.b0,h.lt,h.ln,h.lr⟩,C⟩
 ·refine h.below.trans (C.below h.below.size ?_)
  rintro k I (p|p)
  ·have:=(B7 h.fR k p).1;omega
  ·have:=h.b0;omega
 ·rw[show (R++[q]).length=R.length+1 by simp,List.flatMap_append]
  refine EB (by simpa using ho) ?_ _;intro e;rcases hg.2 with t|t
  ·exact U (t▸e)
  ·rw[t]at e;injection e with e;simp at e;omega
 ·intro u l
  rcases mA.1 l with l|l
  ·exact j (h.II u l) nY nY
  ·rw[mS.1 l];exact j J nY nY
def start(h:D6 w0 w bb p1 p2 p3 tv nv gv Rv b gs R st)(s:Int):D6 w0 (w.setCell (bb,6) s) bb p1 p2 p3 tv nv gv Rv b gs R s/\Am (fun k=>k=bb) w (w.setCell (bb,6) s):=by
 have j:Am (fun k=>k=bb) w (w.setCell (bb,6) s):=(Am.refl (fun k=>k=bb) w).set (p:=⟨bb,6,oN⟩) (.inr rfl) _;have i:∀{e:TypeId} {o n:Nat} {v:oV} {p:List oV},w.ownsRow w0 e o v n p->e≠140->(w.setCell (bb,6) s).ownsRow w0 e o v n p:=by intro e o n v p C I;refine j.own C ?_;rintro k t rfl;exact CI C h.Aj I t
 refine⟨⟨?_,by simpa using h.Aj.Ba 6 s,i h.ft nY,i h.fn nY,i h.fg nY,fun q l=>i (h.rows q l) nY,i h.fR nY,fun q l=>i (h.II q l) nY,h.names,h.b0,h.lt,h.ln,h.lr⟩,j⟩;refine h.below.trans (j.below h.below.size ?_);rintro k t J;have:=h.b0;omega
end D6
structure Jq(wi:oU)(xb left:Nat)(xv:oV)(done:List Nat)(wr:oU):Prop where
 below:Below wi wi wr
 box:Ah wr xb 113 #[left,xv]
 own:wr.ownsRow wi 3 1 xv done.length (done.map Mark)
 hx:wi.heap.size<=xb
namespace Jq
variable {wi wr:oU} {xb left:Nat} {xv:oV} {done:List Nat}
def later(h:Jq wi xb left xv done wr)(i:Below wr wr w'):Jq wi xb left xv done w':=by have j:Am (fun _=>False) wr w':=.AJ i;exact⟨h.below.trans (i.mono h.below.size),j.Aj h.box id,j.own h.own (fun _ _=>id),h.hx⟩
def app(h:Jq wi xb left xv done wr){i:Option Addr}
  (P:w2.ownsRow wi 3 1 (oG i (done.length+1) c2) (done.length+1) (done.map Mark++[Mark s]))
  (t:(wr.alloc o).grownBy w2 xv.ownBlock/\((Value.slice i (done.length+1) c2).ownBlock=xv.ownBlock\/(Value.slice i (done.length+1) c2).ownBlock=oM (wr.alloc o).heap.size)) :
  Jq wi xb left (oG i (done.length+1) c2) (done++[s]) (w2.setCell (xb,1) (oG i (done.length+1) c2)):=by
 have p:Am (fun k=>xv.ownBlock=oM k) wr w2:=((Am.refl _ wr).alloc o).next (.CM t.1);have I:Am (fun k=>xv.ownBlock=oM k\/k=xb) wr (w2.setCell (xb,1) (oG i (done.length+1) c2)):=(p.mono (fun a0 J=>.inl J)).set (p:=⟨xb,1,oN⟩) (.inr (.inr rfl)) _;have l:¬xv.ownBlock=oM xb:=CI h.own h.box nY;have U:=h.box.lt;refine⟨?_,by simpa using(p.Aj h.box l).Ba 1 (oG i (done.length+1) c2),?_,h.hx⟩
 ·refine h.below.trans (I.below h.below.size ?_)
  rintro k T (C|C)
  ·have:=(B7 h.own k C).1;omega
  ·have:=h.hx;omega
 ·rw[show (done++[s]).length=done.length+1 by simp,BB]
  refine EB P ?_ _;intro e;rcases t.2 with j|j
  ·exact l (j▸e)
  ·rw[j]at e;injection e with e;simp at e;omega
end Jq
def L6(R:List (List AP)):Prop:=∀r∈R,r≠[]/\r.length<=100001
theorem Rx{o:AP->Bool}:∀(l:List Tk) (k:Nat) {b j:Bd},D5 o b k l=.ok j->j.R=b.R
 | [],k,b,j,h=>by injection h with h;rw[h]
 | t::l,k,b,j,h=>by
  unfold D5 at h;cases i:DZ o b t k with
  | error f=>rw[i]at h;cases h
  | ok p=>
   rw[i]at h;rw[Rx l (k+1) h];unfold DZ at i;split at i
   ·cases i
   split at i
   ·injection i with i;rw[<-i]
   split at i
   ·split at i
    ·cases i
    ·injection i with i;rw[<-i]
   split at i
   ·injection i with i;rw[<-i]
   ·cases i
theorem jK{o:AP->Bool}{b l:Bd}{left:AP}{s:PS}(t:s.l.length<=100000)(h0:L6 b.R)(h:DS o b left s=.ok l):L6 l.R:=by
 unfold DS at h;split at h
 ·cases h
 cases j:D5 o b 0 s.l with
 | error f=>rw[j]at h;cases h
 | ok p=>
  rw[j]at h;simp only at h;split at h
  ·cases h
  ·injection h with h
   rw[<-h];intro r i;rcases mA.1 i with i|i
   ·rw[Rx _ _ j]at i;exact h0 r i
   ·rw[mS.1 i];simp;omega
def gY{D:Nat}{b i:Bd}{t:Tk}(h:EP D b t=.ok i):i.R=b.R:=by
 unfold EP at h;split at h
 ·cases h
 split at h
 ·injection h with h;rw[<-h]
 split at h
 ·cases h
 ·injection h with h;rw[<-h]
end
variable{b:Bd}{v:oV}
section
open Go.RowKit Go.Proofs.Tryz Go.Maps
structure Has(w0 w:oU)(tv nv Rv:oV)(g:PG)(R:List BJ):Prop where
 ft:w.ownsRow w0 9 1 tv g.T.length (g.T.map Nv)
 fn:w.ownsRow w0 9 1 nv g.N.length (g.N.map Nv)
 fR:w.ownsRow w0 113 2 Rv R.length (R.flatMap BJ.cells)
 II:∀q∈R,w.ownsRow w0 3 1 q.v q.r.length (q.r.map Mark)
 r:R.map BJ.g=g.R
def T7(i:oU)(r:Except Bp PG)(e:Ending)(w':oU):Prop:=
 Below i i w'/\match r with
 | .ok g=>∃o l j R,e=oQ (.agg #[o,l,j,g.s])/\Has i w' o l j g R
 | .error f=>Q2 f e
def iS{w:oU}{g:Nat}{l:List Bu}{q:Bu}(h:w.ownsRow B 177 4 (oG (g,0) l.length c) l.length (l.flatMap Bu.cells))(P:l[k]?=oM q) :
  oT w (g,k*4)=oM (oH oO q.left.k)/\oT w (g,k*4+1)=oM (oJ (str q.left.s))/\oT w (g,k*4+2)=oM (oH oO q.left.p)/\oT w (g,k*4+3)=oM q.v:=by
 obtain⟨J,R⟩:=sG.1 P;have i:∀j,j<4->(l.flatMap Bu.cells)[k*4+j]?=(Bu.cells q)[j]?:=fun j I=>by rw[CP Bu.cells 4 (fun _=>rfl) l k j J I,R]
 have o:=Bh h (k*4) nX;have p:=Bh h (k*4+1) nX;have t:=Bh h (k*4+2) nX;have C:=Bh h (k*4+3) nX;rw[o,p,t,C,i 1 nX,i 2 nX,i 3 nX];have:=i 0 nX;rw[Nat.add_zero]at this;rw[this];exact⟨rfl,rfl,rfl,rfl⟩
def Xh{w:oU}{g:Nat}{l:List GS}{q:GS}(h:w.ownsRow B 180 2 (oG (g,0) l.length c) l.length (l.flatMap GS.cells))(I:l[k]?=oM q) :
  oT w (g,k*2)=oM q.v/\oT w (g,k*2+1)=oM (oH oO q.s.p):=by
 obtain⟨C,J⟩:=sG.1 I;have i:∀j,j<2->(l.flatMap GS.cells)[k*2+j]?=(GS.cells q)[j]?:=fun j t=>by rw[CP GS.cells 2 (fun _=>rfl) l k j C t,J]
 have o:=Bh h (k*2) nX;have p:=Bh h (k*2+1) nX;rw[o,p,i 1 nX];have:=i 0 nX;rw[Nat.add_zero]at this;rw[this];exact⟨rfl,rfl⟩
def U1{i:Type}{l:List i}{a:i}(h:l[k]?=oM a):l.drop k=a::l.drop (k+1):=by obtain⟨j,e⟩:=sG.1 h;rw[List.drop_eq_getElem_cons j,e]
def jI{w:oU}{g:Nat}(h:w.ownsRow B e s (oG (g,0) n c) n xs):n<=c/\c<=9223372036854775807:=by
 rcases Bj h with⟨i,_⟩|⟨b,c2,i,_,_,j,l,_⟩
 ·cases i
 ·cases i
  unfold maxLen at l;exact⟨j,nX⟩
def ZG:Array oV:=#[oG oN 0 0,oG oN 0 0,oG oN 0 0,oH oO 0]
def Ol{U w:oU}{i o l g:Nat}{tv nv J:oV}{I:List BM}{p:DataW Unit}(h:BS U w i o l rb tv nv J b I C p)(T:Am (Dy i o l tv nv) w w')(j:Ah w g t cs)(P:t≠140)(R:t≠9):Ah w' g t cs:=T.Aj j (Kj h j P R)
def QE{w0 w:oU}{i p o g:Nat}{tv nv j:oV}{J:List BM}{I:DataW Unit}(h:BS w0 w i p o rb tv nv j b J I C)(U:Am (NT i p o tv nv j) w w')(l:Ah w g t cs)(P:t≠140)(R:t≠9)(T:t≠44):Ah w' g t cs:=U.Aj l (gA h l P R T)
def D6.last{j w:oU}{P i:Nat}{p1 p2 p3 tv nv U o:oV}{T:List BM}{R:List BJ}{st:Int}{g:PG}(h:D6 j w P p1 p2 p3 tv nv U o b T R st)(hg:Ah w i 47 ZG)(a0:j.heap.size<=i)(hT:g.T=b.T)(hN:g.N=b.N)(hR:R.map BJ.g=g.R)(hs:(g.s:Int)=st)(u0 u1 u2 u3:oV) :
  T7 j (.ok g) (oQ (.agg #[tv,nv,o,oH oO st])) ((((w.setCell ⟨i,0,oN⟩ u0).setCell ⟨i,1,oN⟩ u1).setCell ⟨i,2,oN⟩ u2).setCell ⟨i,3,oN⟩ u3):=by
 have C:Am (·=i) w ((((w.setCell ⟨i,0,oN⟩ u0).setCell ⟨i,1,oN⟩ u1).setCell ⟨i,2,oN⟩ u2).setCell ⟨i,3,oN⟩ u3):=((((Am.refl (·=i) w).set (p:=⟨i,0,oN⟩) (.inr rfl) _).set (p:=⟨i,1,oN⟩) (.inr rfl) _).set (p:=⟨i,2,oN⟩) (.inr rfl) _).set (p:=⟨i,3,oN⟩) (.inr rfl) _;have l:∀{e:TypeId} {p n:Nat} {v:oV} {t:List oV},w.ownsRow j.heap.size e p v n t->e≠47->World.ownsRow ((((w.setCell ⟨i,0,oN⟩ u0).setCell ⟨i,1,oN⟩ u1).setCell ⟨i,2,oN⟩ u2).setCell ⟨i,3,oN⟩ u3) j.heap.size e p v n t:=by intro e p n v t J he;refine C.own J ?_;rintro k I rfl;exact CI J hg he I
 refine⟨h.below.trans (C.below h.below.size (fun k I e=>by omega)),tv,nv,o,R,by rw[hs],⟨?_,?_,l h.fR nY,fun q hq=>l (h.II q hq) nY,hR⟩⟩
 ·rw[hT];exact l h.ft nY
 ·rw[hN];exact l h.fn nY
def VH{I w:oU}{bb tm nm:Nat}{tv nv gv:oV}(h:BS I w bb tm nm rb tv nv gv ⟨[],[],[]⟩ [] DT DN)(P:DP I B rb mb tb l x dv kv sv rv rs D)(ck:rs.map Bu.r=x.rules)
  (ea:x.marks.length=x.starts.length) (ec:∀t∈x.decl,t.s.length<=8192) (ef:∀t∈x.starts,t.s.length<=8192) (ed:DI x.marks<=100000)
  (ee:∀r∈rs,r.left.s.length<=8192/\∀q∈r.ss,(∀t∈q.s.l,t.s.length<=8192)/\q.s.l.length<=100000) :
  () 66 #[(bb,0)] w (T7 I (GH x)):=by
 have bj:=Hd (h.alloc (oP ZG 47));have db:=Hd (Ah.new w 47 ZG);have an:=Hd (fJ bj P ck ea ec ef rfl ed);have eh:=h.below.size;have gl:w.heap.size<(w.alloc (oP ZG 47)).heap.size:=by simp
 unfold ZG at an;have d5:Hid (∀o,Below I I o->oT o (rb,3)=oM sv/\oT o (rb,4)=oM rv):=Hd (fun o hb=>by obtain⟨_,_,a3,a4,_,_⟩:=(P.later hb).Bw.A8.cells;exact⟨a3,a4⟩)
 obtain⟨As,cs,ah⟩:=BK P.Bw.starts;obtain⟨Ar,cr,g1⟩:=BK P.rules;have f7:Hid (∀k q,rs[k]?=oM q->∃g c,rv=oG (oM ⟨g,0,oN⟩) rs.length c/\∀o,Below I I o->oT o ⟨g,k*4,oN⟩=oM (oH oO q.left.k)/\oT o ⟨g,k*4+1,oN⟩=oM (oJ (str q.left.s))/\oT o ⟨g,k*4+2,oN⟩=oM (oH oO q.left.p)/\oT o ⟨g,k*4+3,oN⟩=oM q.v):=Hd (fun k t ht=>by obtain⟨hk,_⟩:=sG.1 ht;obtain⟨g,c,hv⟩:=Jt P.rules nX;refine⟨g,c,hv,fun o b1=>?_⟩;have p:=(Am.AJ (X:=fun _=>False) b1).own P.rules (fun _ _=>id);rw[hv]at p;exact iS p ht)
 have fb:Hid (∀q∈rs,(∃A c,q.v=oG A q.ss.length c)/\q.ss.length<=9223372036854775807/\∀j s,q.ss[j]?=oM s->∃g c,q.v=oG (oM ⟨g,0,oN⟩) q.ss.length c/\∀o,Below I I o->oT o ⟨g,j*2,oN⟩=oM s.v/\oT o ⟨g,j*2+1,oN⟩=oM (oH oO s.s.p)):=Hd (fun q hq=>by have bc:=(P.Hz q hq).1;refine⟨BK bc,(by have:=RG bc;unfold maxLen at this;omega),fun j s R=>?_⟩;obtain⟨hk,_⟩:=sG.1 R;obtain⟨g,c,hv⟩:=Jt bc nX;refine⟨g,c,hv,fun o b1=>?_⟩;have p:=(Am.AJ (X:=fun _=>False) b1).own bc (fun _ _=>id);rw[hv]at p;exact Xh p R)
 have fd:Hid ((x.starts=[]/\x.starts.length=0)\/∃st r,x.starts=st::r/\(0:Int)<(x.starts.length:Int)/\∃g c,sv=oG (oM ⟨g,0,oN⟩) x.starts.length c/\∀o,Below I I o->oT o ⟨g,1,oN⟩=oM (oJ (str st.s))):=Hd (by
  cases R:x.starts with
  | nil=>exact .inl ⟨rfl,rfl⟩
  | cons st r=>
   have fz:0<x.starts.length:=by rw[R];simp
   obtain⟨g,c,hv⟩:=Jt P.Bw.starts fz;refine .inr ⟨st,r,rfl,by rw[<-R];omega,g,c,by rw[<-R];exact hv,fun o b1=>?_⟩;have p:=(Am.AJ (X:=fun _=>False) b1).own P.Bw.starts (fun _ _=>id);rw[hv]at p;exact(Of (k:=0) p (by rw[R];rfl)).2.1)
 have gr:rs.length<=100000:=by have:=P.lr;omega
 have gs:x.starts.length<=100000:=by have:=P.Bw.ls;omega
 have HR:=Hd P;have HX:=Hd ck;have fc:=Hd ee;clear h P ck ea ec ef ed ee;subst ah;subst g1;generalize e4:rs.length=nr at *;generalize e6:x.starts.length=ns at *;have di:=Hd e4;clear e4 e6;cases hh:GF x with
 | error f=>
  have HE:Hid (GH x=.error f):=Hd (by unfold GH;rw[hh]);rw[hh]at an;clear hh;go_enter func66,ntmps66
  go_wp2_with (go_at_call 100;refine an.mono ?_;rintro e w1 ⟨dr,h5,fy,rfl⟩)
  refine⟨rfl,dr,?_⟩;rw[HE.out];exact⟨_,fy,rfl⟩
 | ok T=>
  rw[hh]at an;have b5:Hid (∀r,Df (leftOf x) T.length ⟨T,[],[]⟩ x.rules=r->GH x=match r with | .error f=>.error f | .ok b=>.ok (Ho x b)):=Hd (fun r P=>by unfold GH;rw[hh];simp only;rw[P];cases r<;>rfl);clear hh;go_enter func66,ntmps66
  go_wp2_with (
         go_at_call 100;refine an.mono ?_;rintro e w1 ⟨dr,rfl,g9,ei,d3,d1,U,z2⟩
         have au:Hid (BS I w1 bb tm nm rb g9 ei gv ⟨T,[],[]⟩ [] d3 d1):=Hd U;have dc:Hid (Ah w1 w.heap.size 47 ZG):=Hd (Ol bj z2 db nY nY);have gm:=dc.lt;obtain⟨c0,c1,c2,c3,c4,c7,aa⟩:=au.cells;obtain⟨k3,k4⟩:=d5 w1 au.below;obtain⟨At,ct,g4⟩:=BK au.ft;subst g4;clear U z2)
  generalize w.heap.size=g0 at *;clear c1 c2 c3 c4 c7 an db bj;have gi:T.length<=120:=au.lt;go_loopw [29] (fun aj wr=>∃(k:Nat) (i:Bd) (cv cn c8:oV) (a7:List BM) (d2 cz:DataW Unit),k<=nr/\aj=oH oO k/\Hid (BS I wr bb tm nm rb cv cn c8 i a7 d2 cz)/\Hid (Ah wr g0 47 ZG)/\Hid (Df (leftOf x) T.length ⟨T,[],[]⟩ x.rules=Df (leftOf x) T.length i ((rs.drop k).map Bu.r))/\Hid (L6 i.R)) (fun aj _=>nr-(intOf aj).toNat)
  case atStart=>exact⟨0,⟨T,[],[]⟩,_,ei,gv,[],d3,d1,AX _,rfl,au,dc,Hd (by rw[<-HX.out];rfl),Hd (fun r P=>by cases P)⟩
  case round=>
   rename oU=>w9
   obtain⟨k,i,cv,cn,c8,a7,d2,cz,hk,rfl,HA,HG,HY,HN⟩:=hrel;by_cases az:k<nr
   ·obtain⟨q,hq⟩:∃q,rs[k]?=oM q:=⟨_,eG (by rw[di.out];exact az)⟩
    obtain⟨g,c,aq,ds⟩:=f7 k q hq;obtain⟨e0,e1,e2,e3⟩:=ds w9 HA.below;cases aq
    have bd:=mG hq;have bv:Hid (Df (leftOf x) T.length ⟨T,[],[]⟩ x.rules=Df (leftOf x) T.length i (q.r::(rs.drop (k+1)).map Bu.r)):=Hd (by rw[HY.out,U1 hq];rfl);obtain⟨⟨Aq,cq,cj⟩,gw,e7⟩:=fb q bd;have f5:=Hd (fun j s R=>by obtain⟨g,c,h1,p⟩:=e7 j s R;rw[cj]at h1;exact(⟨g,c,h1,p⟩:∃g c,Value.slice Aq q.ss.length cq=oG (oM ⟨g,0,oN⟩) q.ss.length c/\∀o,Below I I o->oT o ⟨g,j*2,oN⟩=oM s.v/\oT o ⟨g,j*2+1,oN⟩=oM (oH oO s.s.p)));rw[cj]at e3;have dd:=Hd (HR.Hz q bd);obtain⟨ch,e8⟩:=fc q bd
    have bq:=Hd e8;have ff:=Hd (Ah.new w9 177 #[q.left.k,oJ (str q.left.s),q.left.p,(oG Aq q.ss.length cq)]);have bk:=Hd (HA.alloc (oP #[q.left.k,oJ (str q.left.s),q.left.p,(oG Aq q.ss.length cq)] 177));have eu:Hid (Ah (w9.alloc (oP #[q.left.k,oJ (str q.left.s),q.left.p,(oG Aq q.ss.length cq)] 177)) g0 47 ZG):=Hd (HG.alloc _);have b9:=Hd (mO bk q.left ch T.length (T.length:Int) rfl);have ca:=HA.cells;obtain⟨d0,_,_,_,_,_,ca⟩:=ca;clear hq ds e7 e8 bd cj
    cases af:EP T.length i q.left with
    | error f=>
     have HE:=Hd (b5 (.error f) (by rw[bv.out,Df,J2,show q.r.left=q.left from rfl,af]));rw[af]at b9;clear af ch;go_wp2_with (go_at_call 101;refine b9.mono ?_;intro e w2 hx;obtain⟨ab,hx⟩:=hx;have hx:e=_:=hx;subst hx)
     refine⟨rfl,ab,?_⟩;rw[HE.out];exact⟨_,rfl,rfl⟩
    | ok b2=>
     have fi:Hid (Df (leftOf x) T.length ⟨T,[],[]⟩ x.rules=match FD (leftOf x) q.left.s b2 (q.ss.map GS.s) with | .error e=>.error e | .ok i=>Df (leftOf x) T.length i ((rs.drop (k+1)).map Bu.r)):=Hd (by rw[bv.out,Df,J2,show q.r.left=q.left from rfl,af];have e1:q.r.GQ=q.ss.map GS.s:=rfl;simp only[e1];cases FD (leftOf x) q.left.s b2 (q.ss.map GS.s)<;>rfl)
     have ey:Hid (L6 b2.R):=Hd (by rw[gY af];exact HN);rw[af]at b9;clear af ch bv;go_wp2_with (
             go_at_call 101;refine b9.mono ?_;intro e w2 hx;obtain⟨ab,rfl,ga,g7,em,ek,U,z2,z3,z4⟩:=hx
             have eo:=Hd U;have ak:=Hd (Ol bk z2 eu nY nY);have ba:=Hd (Ol bk z2 ff nY nY);have x3:=ba.cell 3;simp at x3;have cm:=ba.lt;clear ab U z2 z3 z4)
     have ej:=ba.cell 1;simp at ej;generalize w9.heap.size=xb at *;generalize dz:q.ss.length=nq at *;have dh:=Hd dz;clear dz x3 ej e0 e1 e2 e3 d0 c0 k3 k4 cm;go_loopw [41] (fun j wy=>∃(m:Nat) (b3:Bd) (cy cp c9:oV) (bz:List BM) (bi bh:DataW Unit),m<=nq/\j=oH oO m/\Hid (BS I wy bb tm nm rb cy cp c9 b3 bz bi bh)/\Hid (Ah wy g0 47 ZG)/\Hid (Ah wy xb 177 #[q.left.k,oJ (str q.left.s),q.left.p,oG Aq nq cq])/\Hid (Df (leftOf x) T.length ⟨T,[],[]⟩ x.rules=match FD (leftOf x) q.left.s b3 ((q.ss.drop m).map GS.s) with | .error e=>.error e | .ok i=>Df (leftOf x) T.length i ((rs.drop (k+1)).map Bu.r))/\Hid (L6 b3.R)) (fun j _=>nq-(intOf j).toNat)
     case atStart=>exact⟨0,b2,ga,g7,c8,a7,em,ek,AX _,rfl,eo,ak,ba,fi,ey⟩
     case round=>
      obtain⟨m,b3,cy,cp,c9,bz,bi,bh,hm,rfl,bl,a0,bu,bw,de⟩:=hrel;by_cases cf:m<nq
      ·obtain⟨s,R⟩:∃s,q.ss[m]?=oM s:=⟨_,eG (by rw[dh.out];exact cf)⟩
       obtain⟨g2,c2,fw,dt⟩:=f5 m s R;obtain⟨s0,s1⟩:=dt wr bl.below;cases fw
       have ar:=mG R;obtain⟨bf,bx,ah⟩:=BK (show I.ownsRow B 170 3 s.v s.s.l.length (s.s.l.flatMap Tk.cells) from dd.2 s ar);rw[ah]at s0;have fg:=Hd (bu.alloc (oP #[oG bf s.s.l.length bx,s.s.p] 180));have b8:=Hd (a0.alloc (oP #[oG bf s.s.l.length bx,s.s.p] 180));have bm:=Hd (bl.alloc (oP #[oG bf s.s.l.length bx,s.s.p] 180));have av:=Hd (aS bm HR HX q.left.s s (dd.2 s ar) (bq s ar).1 (bq s ar).2);rw[ah]at av;have x1:=bu.cell 1
       simp at x1;have cm:=bu.lt;have d6:=Hd (U1 R);have fa:=Hd (fun b4 (h:DS (leftOf x) b3 q.left.s s.s=.ok b4)=>jK (bq s ar).2 de h);clear R dt ar ah;generalize s.s.l.length=h4 at *;cases ag:DS (leftOf x) b3 q.left.s s.s with
       | error f=>
        have HE:=Hd (b5 (.error f) (by rw[bw.out,d6.out,List.map_cons,FD,ag]));rw[ag]at av;clear ag;go_wp2_with (go_at_call 102;refine av.mono ?_;intro e w2 hx;obtain⟨ab,hx⟩:=hx;have hx:e=_:=hx;subst hx)
        refine⟨rfl,ab,?_⟩;rw[HE.out];exact⟨_,rfl,rfl⟩
       | ok b4=>
        have fj:Hid (Df (leftOf x) T.length ⟨T,[],[]⟩ x.rules=match FD (leftOf x) q.left.s b4 ((q.ss.drop (m+1)).map GS.s) with | .error e=>.error e | .ok i=>Df (leftOf x) T.length i ((rs.drop (k+1)).map Bu.r)):=Hd (by rw[bw.out,d6.out,List.map_cons,FD,ag]);have ez:=Hd (fa b4 ag);rw[ag]at av;clear ag;go_wp2_with (
                go_at_call 102;refine av.mono ?_;intro e w2 hx;obtain⟨ab,rfl,gb,g8,fq,fp,en,el,U,z2,_,_,_⟩:=hx
                have ep:=Hd U;have a2:=Hd (QE bm z2 b8 nY nY nY);have fh:=Hd (QE bm z2 fg nY nY nY);clear ab U z2)
        go_roundw
        case rel=>exact⟨m+1,b4,gb,g8,fq,fp,en,el,nX,oD,ep,a2,fh,fj,ez⟩
        case measure=>simp[intOf];omega
      ·obtain rfl:m=nq:=by omega
       have fk:Hid (Df (leftOf x) T.length ⟨T,[],[]⟩ x.rules=Df (leftOf x) T.length b3 ((rs.drop (k+1)).map Bu.r)):=Hd (by rw[bw.out,List.drop_of_length_le (by have:=dh.out;omega)];rfl);go_wp2;go_roundw
       case rel=>exact⟨k+1,b3,cy,cp,c9,bz,bi,bh,nX,oD,bl,a0,fk,de⟩
       case measure=>simp[intOf];omega
   ·obtain rfl:k=nr:=by omega
    have HE:Hid (GH x=.ok (Ho x i)):=Hd (b5 (.ok i) (by rw[HY.out,List.drop_of_length_le (by have:=di.out;omega)];rfl));have gq:a7.length<=300:=by have h1:=HA.names;have p:=HA.lr;rw[<-h1,lM]at p;exact p
    obtain⟨Ag,cg,aq⟩:=BK HA.fg;subst aq;have ev:=Hd (D6.of HA);obtain⟨d0,_,_,_,_,d7,ca⟩:=HA.cells;have f4:Hid (∀u∈a7,∃a r,u.l=a::r/\r.length<=100000):=Hd (fun u hu=>by
     have:=HN u.l (by rw[<-HA.names];exact List.mem_map_of_mem hu);cases hl:u.l with
     | nil=>exact absurd hl this.1
     | cons a r=>exact⟨a,r,rfl,by have p:=this.2;rw[hl]at p;simp at p;omega⟩)
    have dg:Hid (a7.map BM.l=i.R):=Hd HA.names;generalize dy:a7.length=ng at *;have aw:=Hd dy;clear dy az HA HN b5;go_wp2;clear d0 d7 c0 k3 k4 aa;go_loopg [58] ng (fun n aj wx=>∃(k:Nat) (a1:List BJ) (Rv:oV),n=ng-k/\k<=ng/\aj=oH oO k/\Hid (D6 I wx bb (rb,0) (.map (oM tm)) (.map (oM nm)) cv cn (oG Ag ng cg) Rv i a7 a1 0)/\Hid (Ah wx g0 47 ZG)/\Hid (a1.map BJ.g=(i.R.take k).map (GM i.T i.N)))
    case atStart=>exact⟨0,[],_,rfl,AX _,rfl,ev,HG,Hd rfl⟩
    case round=>
     rename oU=>C
     obtain⟨k,a1,Rv,fv,hk,rfl,J,ak,bt⟩:=hrel;obtain⟨c0,c3,c4,c5,c6,c7,aa⟩:=J.cells;obtain⟨AR,cR,fs⟩:=BK J.fR;subst fs;by_cases az:k<ng
     ·obtain⟨u,hu⟩:∃u,a7[k]?=oM u:=⟨_,eG (by rw[aw.out];exact az)⟩
      have be:=mG hu;obtain⟨a,ra,cl,gx⟩:=f4 u be;obtain⟨g,c,aq⟩:=Jt J.fg (by rw[aw.out];omega);rw[aw.out]at aq;cases aq
      have cc:=J.fg;rw[aw.out]at cc;have u0:=Bh cc k nX;rw[pG,hu]at u0;simp only[Option.map_some]at u0;have fe:=Hd (J.rows u be);have ai:=J.rows u be;rw[cl]at ai;obtain⟨gu,cu,eg⟩:=Jt ai oA;rw[eg]at u0 ai;have dn:Hid (∀o,Below C C o->oT o (gu,0)=oM (oJ (str a))/\∀j s,ra[j]?=oM s->oT o (gu,1+j)=oM (oJ (str s))):=Hd (fun o hb=>by have p:=(Am.AJ (X:=fun _=>False) hb).own ai (fun _ _=>id);refine⟨Bh p 0 oA,fun j s R=>?_⟩;obtain⟨hj,_⟩:=sG.1 R;have:=Bh p (1+j) oC;rw[this,Nat.add_comm];simp only[List.map_cons,List.getElem?_cons_succ,pG,R];rfl)
      have dx:=RG ai;obtain⟨du,fu⟩:=jI ai;have f8:Hid ((i.R.take (k+1)).map (GM i.T i.N)=(i.R.take k).map (GM i.T i.N)++[(B9 i.T i.N a,ra.map (B9 i.T i.N))]):=Hd (by
       have h1:i.R[k]?=oM (a::ra):=by rw[<-dg.out,pG,hu];exact congrArg oM cl
       obtain⟨cd,e⟩:=sG.1 h1;rw[List.take_succ_eq_append_getElem cd,e,BB];rfl)
      have a5:=Hd J.drew;have d9:=Hd (a5.find a);have d4:=Hd ((J.later (AG C (oP #[oH oO 0,oG oN 0 0] 113))).drew);have da:=Hd (d4.find a);have dp:=Hd (Ah.new C 113 #[oH oO 0,oG oN 0 0]);obtain⟨v0,_⟩:=dn C (Below.refl _ _);have dw:=World.block_lt_of_cell? C _ v0;simp at dw;have e9:(a::ra).length=ra.length+1:=rfl;rw[e9]at u0 dx du;unfold maxLen at dx;have fx:(0:Int)<((ra.length+1:Nat):Int):=by omega
      clear ai hu be eg cl cc e9 fe;generalize e5:ra.length=na at *;have df:=Hd e5;clear e5;generalize hF:B9 i.T i.N a=F at *;go_upto_region 16 with fail
      go_cut [9,10] (fun uv xp wz=>uv=oG (gu,0) (na+1) cu/\∃xb:Nat,xp=(xb,0)/\Hid (Jq C xb F (oG oN 0 0) [] wz))
      case first=>
       go_region_law (
                go_simp;go_at_call 103;first
                | (
                 (with_reducible refine d9.out.mono ?_);rintro e wi ⟨rfl,a8⟩
                 have ax:Hid (Below C C wi):=Hd ((IC C).trans a8);clear a8)
                | (
                 (with_reducible refine da.out.mono ?_);rintro e wi ⟨rfl,a8⟩
                 have ax:Hid (Below C C wi):=Hd ((AG C _).trans (((IC _).trans a8).mono oA));have ay:Hid (Ah wi C.heap.size 113 #[oH oO 0,oG oN 0 0]):=Hd (dp.below ((IC _).trans a8) oA);have y0:=ay.cell 0;have y1:=ay.cell 1;have y2:=ay.frozen 0;have y3:=ay.frozen 1;simp at y0 y1;clear a8))
       all_goals (
        go_wp2_with fail
        go_meet
        first
          | exact⟨rfl,_,rfl,Hd ⟨ax.trans ((AG wi _).mono ax.size),Ah.new wi 113 #[F,oG oN 0 0],World.ownsRow_nil _ _ _ _,ax.size⟩⟩
          | exact⟨rfl,_,rfl,Hd ⟨(((Am.AJ (X:=fun _=>False) ax).set (p:=⟨C.heap.size,0,oN⟩) (.inl (Ay _)) _).set (p:=⟨C.heap.size,1,oN⟩) (.inl (Ay _)) _).below (Ay _) (fun _ _=>id),by simpa using(ay.Ba 0 F).Ba 1 (oG oN 0 0),World.ownsRow_nil _ _ _ _,Ay _⟩⟩)
      case rest=>
       obtain⟨rfl,xb,rfl,dj⟩:=hcut;have gf:=Hd (J.later dj.below);clear c0 c3 c4 c5 c6 c7 aa v0 u0 d9 da d4 a5 dp;go_upto_region 17 with fail
       go_cut [9,72,73,74] (fun _ sw nw iw wy=>wy=wc/\nw=oH oO na/\iw=oH oO 0/\∃ad cw,sw=oG (oM ad) na cw/\(0<na->ad=(gu,1)))
       case first=>
        go_wp2_with fail
        all_goals (
          go_wp2_with fail
          go_meet
          first
           | exact⟨rfl,rfl,rfl,_,_,rfl,fun _=>rfl⟩
           | exact⟨rfl,rfl,rfl,_,_,rfl,fun h=>by omega⟩)
       case rest=>
        obtain⟨rfl,rfl,rfl,ad,cw,rfl,dq⟩:=hcut;have er:=Hd dq;clear dq fx du fu dw;have g5:=J.below.size;have gh:a1.length<=300:=by have h1:=congrArg List.length bt;simp at h1;omega
        go_wp2;go_loopg [74] na (fun n aj wy=>∃(j:Nat) (done:List Nat) (xv:oV),n=na-j/\j<=na/\aj=oH oO j/\done.length=j/\Hid (Jq C xb F xv done wy)/\Hid (done=(ra.take j).map (B9 i.T i.N)))
        case atStart=>exact⟨0,[],_,rfl,AX _,rfl,rfl,dj,Hd rfl⟩
        case round=>
          obtain⟨_,done,xv,gp,hj,rfl,rfl,a6,d8⟩:=hrel;have bn:=Hd (J.later a6.below);have gy:=a6.below.size;obtain⟨Ax,cx,g6⟩:=BK a6.own;subst g6;obtain⟨c0,c3,c4,c5,c6,c7,aa⟩:=bn.cells;have y0:=a6.box.cell 0;have y1:=a6.box.cell 1;have cm:=a6.box.lt;simp at y0 y1;by_cases cf:done.length<na
          ·obtain⟨t,ht⟩:∃t,ra[done.length]?=oM t:=⟨_,eG (by rw[df.out];exact cf)⟩
           have e0:=(dn wr a6.below).2 done.length t ht;obtain rfl:=er nX;have et:Hid (done++[B9 i.T i.N t]=(ra.take (done.length+1)).map (B9 i.T i.N)):=Hd (by obtain⟨cd,e⟩:=sG.1 ht;have h1:=d8.out;rw[List.take_succ_eq_append_getElem cd,e,BB,<-h1];rfl)
           have bo:=Hd (bn.drew.find t);have br:=Hd (a6.later (IC wr));clear ht;generalize gg:B9 i.T i.N t=F2 at *;go_wp2;go_region_law (first
            | (
              refine ER Qr (.tmp 79) (.tmp 86) ?_ ?_ (base:=C.heap.size) (n:=done.length) (m:=1) (N:=done.length+1) (v:=oG Ax done.length cx) (src:=oG (wi,0) 1 1) (xs:=done.map Mark) (news:=[oH oO F2]) ?_ ?_ ?_ ?_ ?_ ?_ ?_ ?_ ?_
              ·rfl
              ·rfl
              ·rfl
              ·rfl
              ·exact a9.own.alloc _
              ·exact TN wi _
              ·rfl
              ·unfold maxLen;omega
              ·omega
              ·simp;omega
              intro A3 fo w3 r1 r2 r3;have HF:=Hd (a9.app (s:=F2) r1 r3);have hX:Am (fun k=>(Value.slice Ax done.length cx).ownBlock=oM k) wi w3:=((Am.refl _ wi).alloc (oP #[F2] 3)).next (.CM r3.1);have ae:=hX.Aj a9.box (CI a9.own a9.box nY);have U:=ae.cell 1;have zf:=ae.frozen 1;simp at U;clear r1 r2 r3 ae hX)
            | (
              go_simp;go_at_call 103;refine bo.mono ?_;rintro e wi ⟨rfl,a8⟩;have a9:=Hd (br.later a8);have gd:=a9.box.cell 1;have gz:=a9.below.size;have h2:=a9.box.lt;simp at gd;clear a8))
           all_goals go_wp2
           all_goals go_roundg (na-(done.length+1))
           all_goals first
            | (case measure=>omega)
            | (case rel=>exact⟨done.length+1,done++[F2],_,rfl,nX,oD,oA,HF,et⟩)
          ·obtain rfl:na=done.length:=by omega
           have es:Hid (done=ra.map (B9 i.T i.N)):=Hd (by have h1:=d8.out;rw[Da (by have:=df.out;omega)]at h1;exact h1)
           have a5:=Hd bn.drew;have br:=Hd (a6.later (IC wr));have al:=Hd ((ak.below a6.below ak.lt).drew);have f6:Hid ((a1++[(⟨F,oG Ax done.length cx,done⟩:BJ)]).map BJ.g=(i.R.take (k+1)).map (GM i.T i.N)):=Hd (by rw[BB,bt.out,f8.out,<-es.out];rfl)
           go_wp2;go_region_law (
                  refine ER nQ (.tmp 95) (.tmp 97) ?_ ?_ (base:=I.heap.size) (n:=a1.length) (m:=1) (N:=a1.length+1) (v:=oG AR a1.length cR) (src:=oG (wr,0) 1 1) (xs:=a1.flatMap BJ.cells) (news:=[oH oO F,oG Ax done.length cx]) ?_ ?_ ?_ ?_ ?_ ?_ ?_ ?_ ?_
                  ·rfl
                  ·rfl
                  ·rfl
                  ·rfl
                  ·exact a5.fR.alloc _
                  ·exact Be.Aj (c:=1) (Ah.new wr.drew 113 #[F,oG Ax done.length cx]) rfl oE
                  ·rfl
                  ·unfold maxLen;omega
                  ·omega
                  ·simp;omega
                  intro A3 fo w3 r1 r2 r3;have HF:=Hd (a5.app (q:=⟨F,oG Ax done.length cx,done⟩) (ID br.own g5) r1 r3);have a0:=Hd (HF.2.Aj al (by
                   rintro(hh|hh)
                   ·exact CI a5.fR al nY hh
                   ·subst hh;exact Ah.Bb al a5.Aj nY rfl))
                  have hX:Am (fun k=>(Value.slice AR a1.length cR).ownBlock=oM k) wr.drew w3:=((Am.refl _ wr.drew).alloc (oP #[F,oG Ax done.length cx] 113)).next (.CM r3.1);have ae:=hX.Aj a5.Aj (CI a5.fR a5.Aj nY);have z5:=ae.cell 5;have zf:=ae.frozen 5;simp at z5;clear r1 r2 r3 ae hX)
           all_goals go_wp2
           all_goals go_roundg (ng-(k+1))
           all_goals first
            | (case measure=>omega)
            | (case rel=>exact⟨k+1,a1++[⟨F,oG Ax done.length cx,done⟩],_,rfl,nX,oD,Hd HF.1,a0,f6⟩)
     ·obtain rfl:k=ng:=by omega
      have dk:Hid (a1.map BJ.g=i.R.map (GM i.T i.N)):=Hd (by have h1:=bt.out;rw[Da (by have p:=dg.out;have h3:=aw.out;rw[<-p,lM];omega)]at h1;exact h1)
      obtain⟨AT,cT,ft⟩:=BK J.ft;subst ft;obtain⟨AN,cN,fr⟩:=BK J.fn;subst fr;have gj:=J.lt;have ao:=Hd (J.start ((i.T.length:Int)+1));have a0:Hid (Ah (C.setCell (bb,6) (oH oO ((i.T.length:Int)+1))) g0 47 ZG):=Hd (ak.Bz (p:=⟨bb,6,oN⟩) (by rintro rfl;exact Ah.Bb ak J.Aj nY rfl) _);have b6:=J.Aj.frozen 6;clear fv az;go_upto_region 25 with fail
      clear c0 c3 c4 c5 c6 c7 aa b6;generalize C.setCell (bb,6) (oH oO ((i.T.length:Int)+1))=wS at *;obtain⟨c0,c3,c4,c5,c6,c7,aa⟩:=ao.1.cells;obtain⟨k3,_⟩:=d5 wS ao.1.below;have z0:=a0.cell 0;have U:=a0.cell 1;have z2:=a0.cell 2;have z3:=a0.cell 3;have f0:=a0.frozen 0;have f1:=a0.frozen 1;have f2:=a0.frozen 2;have f3:=a0.frozen 3;simp[ZG]at z0 U z2 z3;rcases fd.out with⟨b0,rfl⟩|⟨st,sr,b0,e6,g,c,ah,eb⟩
      ·have bp:=Hd (fun u0 u1 u2 u3=>D6.last (g:=Ho x i) ao.1 a0 eh rfl rfl dk (by unfold Ho;rw[b0];simp) u0 u1 u2 u3)
       clear b0;go_wp2;refine bodyPost_ret (v:=.agg #[oG AT i.T.length cT,oG AN i.N.length cN,oG AR a1.length cR,oH oO ((i.T.length:Int)+1)]) (by simp[results,results66,go_sem,z0,U,z2,z3]) rfl ?_;rw[HE.out];exact bp _ _ _ _
      ·cases ah
       have g3:=eb wS ao.1.below;have bo:=Hd (ao.1.drew.find st.s);have ew:Hid ((Ho x i).s=B9 i.T i.N st.s):=Hd (by unfold Ho;rw[b0]);have al:=Hd a0.drew;have f9:=Hd ao.1.drew;clear b0 eb;generalize B9 i.T i.N st.s=F3 at *;go_wp2;go_region_law (
                go_simp;go_at_call 103;refine bo.mono ?_;rintro e wf ⟨rfl,cb⟩;have b7:=Hd (f9.later cb);have b8:=Hd (al.below cb al.lt);have fl:=b7.cells.2.2.2.2.1;have fm:=b7.Aj.frozen 6;clear cb)
       all_goals have dm:=Hd (b7.start (F3:Int))
       all_goals have a2:Hid (Ah (wf.setCell (bb,6) (oH oO (F3:Int))) g0 47 ZG):=Hd (b8.Bz (p:=⟨bb,6,oN⟩) (by rintro rfl;exact Ah.Bb b8 b7.Aj nY rfl) _)
       all_goals generalize wf.setCell (bb,6) (oH oO (F3:Int))=wT at *
       all_goals clear c0 c3 c4 c5 c6 c7 aa k3 z0 U z2 z3 f0 f1 f2 f3 g3 fl fm
       all_goals obtain⟨c0,c3,c4,c5,c6,c7,aa⟩:=dm.1.cells
       all_goals have z0:=a2.cell 0
       all_goals have U:=a2.cell 1
       all_goals have z2:=a2.cell 2
       all_goals have z3:=a2.cell 3
       all_goals have f0:=a2.frozen 0
       all_goals have f1:=a2.frozen 1
       all_goals have f2:=a2.frozen 2
       all_goals have f3:=a2.frozen 3
       all_goals simp[ZG]at z0 U z2 z3
       all_goals have bp:=Hd (fun u0 u1 u2 u3=>D6.last (g:=Ho x i) dm.1 a2 eh rfl rfl dk (by rw[ew.out]) u0 u1 u2 u3)
       all_goals go_wp2
       all_goals refine bodyPost_ret (v:=.agg #[oG AT i.T.length cT,oG AN i.N.length cN,oG AR a1.length cR,oH oO (F3:Int)]) (by simp[results,results66,go_sem,z0,U,z2,z3]) rfl ?_
       all_goals rw[HE.out]
       all_goals exact bp _ _ _ _
end
variable{R:List BJ}{w:oU}{nv tv:oV}{g:PG}
section
open Go.RowKit Go.Proofs.Tryz Go.Maps
def dK{fn:Func}{i:Frame}{cs:List Frame}{R:Ending->FrameMode->oU->Prop}(j:fn.results=#[])(h:R (oQ (.tuple #[])) u w):bodyPostS P fn i cs R .normal {tmps:=tmps,defers:=[]} ({i with mode:=u}::cs) w:=
 ⟨rfl,u,rfl,_,results_none j _ _ _,h⟩
def NL{W:oU}(h:W.heap.size=n):Ah (W.alloc (oP cs t)) n t cs:=h▸Ah.new W t cs
def gE{o l:Nat} :
  CallsD Tryz.prog 63 #[(o,0),(l,0)] .returning w fun e p w'=>e=oQ (.tuple #[])/\p=.returning/\w'=w:=by
 have t:=P0;refine callsD_of_wpS func63 rfl fun I C i=>?_
 simp only[ntmps63,List.size_toArray,List.length_cons,List.length_nil,Nat.reduceAdd,Nat.reduceSub,Array.replicate_succ,Array.replicate_zero,List.push_toArray,List.append_toArray,List.nil_append,List.cons_append];apply wpS_seq;apply wpS_region;simp[wpOpsS,go_sem,recoverD,i,Exit.thenS];refine wpS_of_wp ?_;have j:=Hd i;clear i;go_wp2;exact TZ rfl j ⟨rfl,rfl,rfl⟩
def Vb{j o:Nat}{k p:Int}{R:List PanicEntry}{z0 z1 z2 z3:oV}(l:Ah w j 47 #[z0,z1,z2,z3])(t:Ah w o 85 #[v])(J:k≠0) :
  CallsD Tryz.prog 63 #[oI (oM ⟨j,0,oN⟩),oI (oM ⟨o,0,oN⟩)] (.panicking ({v:=.iface 130 (.agg #[oH oO k,oH oO p]),recovered:=false}::R)) w fun e u' w'=>
   e=oQ (.tuple #[])/\u'=.panicking ({v:=.iface 130 (.agg #[oH oO k,oH oO p]),recovered:=true}::R)/\∃b,Ah w' b 173 #[oH oO k,oH oO p]/\Ah w' j 47 ZG/\Ah w' o 85 #[.iface 171 (oI (oM ⟨b,0,oN⟩))]/\Am (fun i=>i=j\/i=o) w w':=by
 have a0:=RI;have a2:=TP;have C:o≠j:=Ah.Bb t l nY;have a3:=l.lt;have a1:=t.lt;have c0:=l.cell 0;have c1:=l.cell 1;have c2:=l.cell 2;have c3:=l.cell 3;have f0:=l.frozen 0;have f1:=l.frozen 1;have f2:=l.frozen 2;have f3:=l.frozen 3;have d0:=t.cell 0;have df:=t.frozen 0;simp at c0 c1 c2 c3 d0;have P:(k==0)=false:=by simpa using J
 have U:=Hd l;have T:=Hd t;have HN:=Hd (G0 k P p (w.alloc (oP #[oH oO k,oH oO p] 130)));clear l t J P;refine callsD_of_wpS func63 rfl fun c₀ cs I=>?_
 simp only[ntmps63,List.size_toArray,List.length_cons,List.length_nil,Nat.reduceAdd,Nat.reduceSub,Array.replicate_succ,Array.replicate_zero,List.push_toArray,List.append_toArray,List.nil_append,List.cons_append];apply wpS_seq;apply wpS_region;simp[wpOpsS,go_sem,recoverD,I,Exit.thenS];refine wpS_of_wp ?_;have HU:=Hd I;clear I;go_wp2_with (go_at_call 64;refine HN.mono ?_;rintro e w' ⟨rfl,rfl⟩)
 refine dK rfl ⟨rfl,rfl,w.heap.size+1,NL oA,?_,?_,?_⟩
 ·simpa [ZG] using(((((((U.Ba 0 (oG oN 0 0)).Ba 1 (oG oN 0 0)).Ba 2 (oG oN 0 0)).Ba 3 (oH oO 0)).Bz (p:=⟨o,0,oN⟩) (by simpa using Ne.symm C) (.iface 171 (oI (oM ⟨w.heap.size+1,0,oN⟩)))).alloc (oP #[oH oO k,oH oO p] 130)).alloc (oP #[oH oO k,oH oO p] 173))
 ·simpa using(((((((T.Bz (p:=⟨j,0,oN⟩) C (oG oN 0 0)).Bz (p:=⟨j,1,oN⟩) C (oG oN 0 0)).Bz (p:=⟨j,2,oN⟩) C (oG oN 0 0)).Bz (p:=⟨j,3,oN⟩) C (oH oO 0)).Ba 0 (.iface 171 (oI (oM ⟨w.heap.size+1,0,oN⟩)))).alloc (oP #[oH oO k,oH oO p] 130)).alloc (oP #[oH oO k,oH oO p] 173))
 ·exact(((((((Am.refl (fun i=>i=j\/i=o) w).set (p:=⟨j,0,oN⟩) (.inr (.inl rfl)) _).set (p:=⟨j,1,oN⟩) (.inr (.inl rfl)) _).set (p:=⟨j,2,oN⟩) (.inr (.inl rfl)) _).set (p:=⟨j,3,oN⟩) (.inr (.inl rfl)) _).set (p:=⟨o,0,oN⟩) (.inr (.inr rfl)) _).alloc _).alloc _
def bC(h:w.ownsRow B 170 3 v l.length (l.flatMap Tk.cells))(hl:0<l.length):Ff w v l:=by
 rcases h.2 with⟨_,h0⟩|⟨g,cap,o,rfl,h1,t,C,I,h5,J⟩
 ·omega
 ·refine⟨g,0,cap,o,rfl,⟨t,⟨C,I⟩,fun k a0 T=>?_⟩⟩
  obtain⟨R,U⟩:=sG.1 T;have i:∀j,j<3->o[0+k*3+j]?=(Tk.cells a0)[j]?:=fun j P=>by have e:=CP Tk.cells 3 Tk.MW l k j R P;rw[U]at e;rw[<-e,<-J,List.getElem?_take,if_pos nX,Nat.zero_add];simp
  have p:=i 0 nX;rw[Nat.add_zero]at p;exact⟨p,i 1 nX,i 2 nX⟩
def Qb(w:oU)(r:Except Bp PG)(e:Ending)(w':oU):Prop:=
 Below w w w'/\match r with
 | .ok g=>∃l j i R,e=oQ (.tuple #[.agg #[l,j,i,g.s],.nilIface])/\Has w w' l j i g R
 | .error f=>∃v,e=oQ (.tuple #[.agg #[oG oN 0 0,oG oN 0 0,oG oN 0 0,oH oO 0],v])/\J7 w' v f
def Has.mono{l:oU}{j:oV}(h:Has l w' tv nv j g R)(i:w.heap.size<=l.heap.size):Has w w' tv nv j g R:=
 ⟨ID h.ft i,ID h.fn i,ID h.fR i,fun q o=>ID (h.II q o) i,h.r⟩
def Has.AA{o:oU}{p:oV}(h:Has o w tv nv p g R)(j:Am X w w')(l:∀k,o.heap.size<=k->¬X k):Has o w' tv nv p g R:=
 ⟨j.own h.ft (fun k i=>l k (B7 h.ft k i).1),j.own h.fn (fun k i=>l k (B7 h.fn k i).1),j.own h.fR (fun k i=>l k (B7 h.fR k i).1),fun q t=>j.own (h.II q t) (fun k i=>l k (B7 (h.II q t) k i).1),h.r⟩
def iD(v:oV)(w:oU):(binOp .neq 85 (.iface 171 v) .nilIface).run Tryz.prog w=.ok (oK true) w:=by kernel_rfl
def jL(w:oU):(binOp .neq 85 .nilIface .nilIface).run Tryz.prog w=.ok (oK false) w:=by kernel_rfl
def YK(w:oU):(Instr.makeMap 133 oN).run Tryz.prog w=.ok (.map (oM w.heap.size)) (w.alloc (.map #[] 0)):=by kernel_rfl
theorem VF(h:(i.all fun p=>!p.goexit)=true):i.dropWhile (fun x=>!x.goexit)=[]:=by
 induction i with
 | nil=>rfl
 | cons a r j=>simp only[List.all_cons,Bool.and_eq_true]at h;rw[List.dropWhile_cons,if_pos h.1,j h.2]
def mz(s:ByteArray)(hs:s.size<=4611686018427387904)(w:oU)(hm:G2 w):() 38 #[oJ s] w (Qb w (Fc s.data.toList)):=by
 have c8:∀(fn:Fn) (first cap:Array oV) (w:oU),(Instr.makeFunc fn first cap).run Tryz.prog w=.ok (.func fn first cap) w:=fun _ _ _ _=>rfl
 have n1:=iD;have n2:=jL;have c9:=YK;have ax:Below w w ((w.alloc (oP ZG 47)).alloc (oP #[.nilIface] 85)):=(AG w _).alloc oA _;have ab:=Hd (XD s hs ((w.alloc (oP ZG 47)).alloc (oP #[.nilIface] 85)) (hm.later ax));have aj:Hid (Ah ((w.alloc (oP ZG 47)).alloc (oP #[.nilIface] 85)) w.heap.size 47 ZG):=Hd ((Ah.new w 47 ZG).alloc _);have ah:Hid (Ah ((w.alloc (oP ZG 47)).alloc (oP #[.nilIface] 85)) (w.heap.size+1) 85 #[.nilIface]):=Hd (NL oA);have ad:=Hd ax;have cc:w.heap.size+1<((w.alloc (oP ZG 47)).alloc (oP #[.nilIface] 85)).heap.size:=by simp
 clear ax hm;cases C:tokens s.data.toList with
 | error f=>
  have HE:Hid (Fc s.data.toList=.error f):=Hd (by unfold Fc;rw[C]);rw[C]at ab;clear C
  go_enter_defers func38,ntmps38
  go_wp2_with (
      go_at_call 62;refine ab.mono ?_;intro e w1 l;obtain⟨a0,v,rfl,b,rfl,bc⟩:=l
      have av:=Hd (aj.below a0 aj.lt);have a3:=Hd (ah.below a0 ah.lt);have b6:=Hd bc;have ao:=Hd (ad.trans (a0.mono ad.size));have o:=a3.cell 0;have df:=a3.frozen 0;simp at o;clear a0 bc)
  generalize ay:w.heap.size=i at *;generalize bq:i+1=j at *;have az:j≠i:=by omega
  have I:=Hd (av.Bz (p:=⟨j,0,oN⟩) (Ne.symm az) (.iface 171 (b,0)));have a5:Hid (Ah (w1.setCell (j,0) (.iface 171 (b,0))) j 85 #[.iface 171 (b,0)]):=Hd (by simpa using a3.Ba 0 (.iface 171 (b,0)));have ar:=Hd (b6.Bz (p:=⟨j,0,oN⟩) (Ah.Bb b6 a3 nY) (.iface 171 (b,0)));have ae:=Hd ((Am.AJ (X:=fun _=>False) (a:=w) (b:=w1) (by rw[ay];exact ao)).set (p:=⟨j,0,oN⟩) (.inl (by show w.heap.size<=j;omega)) (.iface 171 (b,0)))
  clear o df;generalize w1.setCell (j,0) (.iface 171 (b,0))=p at *;have J:=I.cell 0;have P:=I.cell 1;have R:=I.cell 2;have T:=I.cell 3;have f0:=I.frozen 0;have f1:=I.frozen 1;have f2:=I.frozen 2;have f3:=I.frozen 3;have o:=a5.cell 0;have df:=a5.frozen 0;simp[ZG]at J P R T o
  go_region
  all_goals go_wp2
  all_goals simp only[bodyPostD,Leaves]
  all_goals refine⟨.tuple #[.agg #[oG oN 0 0,oG oN 0 0,oG oN 0 0,oH oO 0],.iface 171 (b,0)],by simp[results,results38,go_sem,J,P,R,T,o],?_⟩
  all_goals rw[HE.out]
  all_goals
   have al:b≠i:=Ah.Bb ar I nY;have bp:b≠j:=Ah.Bb ar a5 nY;have bo:=(((((ae.set (p:=⟨i,0,oN⟩) (.inl (by show w.heap.size<=i;omega)) (oG oN 0 0)).set (p:=⟨i,1,oN⟩) (.inl (by show w.heap.size<=i;omega)) (oG oN 0 0)).set (p:=⟨i,2,oN⟩) (.inl (by show w.heap.size<=i;omega)) (oG oN 0 0)).set (p:=⟨i,3,oN⟩) (.inl (by show w.heap.size<=i;omega)) (oH oO 0)).set (p:=⟨j,0,oN⟩) (.inl (by show w.heap.size<=j;omega)) (.iface 171 (b,0))).drew;exact⟨bo.below (Ay _) (fun _ _=>id),_,rfl,b,rfl,(((((ar.Bz (p:=⟨i,0,oN⟩) al _).Bz (p:=⟨i,1,oN⟩) al _).Bz (p:=⟨i,2,oN⟩) al _).Bz (p:=⟨i,3,oN⟩) al _).Bz (p:=⟨j,0,oN⟩) bp _).drew⟩
 | ok ts=>
  have a4:=Hd (ZU C);have a3:Hid (∀r,FC ts=r->Fc s.data.toList=match r with | .error f=>.error f | .ok x=>GH x):=Hd (fun r hr=>by unfold Fc;rw[C];simp only;rw[hr];cases r<;>rfl);rw[C]at ab;clear C
  go_enter_defers func38,ntmps38
  go_wp2_with (
      go_at_call 62;refine ab.mono ?_;intro e w1 l;obtain⟨a0,v,rfl,b1⟩:=l
      have av:=Hd (aj.below a0 aj.lt);have a8:=Hd (ah.below a0 ah.lt);have ao:=Hd (ad.trans (a0.mono ad.size));have ba:=Hd b1;obtain⟨A,c,hv⟩:=BK b1;subst hv;have o:=a8.cell 0;have df:=a8.frozen 0;have br:=a8.lt;simp at o;clear a0 b1)
  generalize ay:w.heap.size=i at *;generalize bq:i+1=j at *;have az:j≠i:=by omega
  have I:=Hd (av.Bz (p:=⟨j,0,oN⟩) (Ne.symm az) .nilIface);have a5:Hid (Ah (w1.setCell (j,0) .nilIface) j 85 #[.nilIface]):=Hd (by simpa using a8.Ba 0 .nilIface);have ae:=Hd ((Am.AJ (X:=fun _=>False) (a:=w) (b:=w1) (by rw[ay];exact ao)).set (p:=⟨j,0,oN⟩) (.inl (by show w.heap.size<=j;omega)) .nilIface);have b9:=Hd (EB ba (p:=⟨j,0,oN⟩) (CI ba a8 nY) .nilIface);have bh:(w1.setCell (j,0) .nilIface).heap.size=w1.heap.size:=by simp
  clear o df br;generalize w1.setCell (j,0) .nilIface=p at *;rw[<-bh];clear bh;have bu:0<ts.length:=by obtain⟨a2,r,h⟩:=a4.ended.cons;rw[h];simp
  have b0:=B7 b9;have c7:=I.lt;have bz:=a5.lt;have bw:i<=((w.alloc (oP ZG 47)).alloc (oP #[.nilIface] 85)).heap.size:=by simp;omega
  have b7:=Hd (aE (w:=(p.alloc (.map #[] 0)).alloc (oP #[oG A ts.length c,oG oN 0 0,oG oN 0 0,oG oN 0 0,oG oN 0 0,.map (oM p.heap.size)] 136)) (B:=p.heap.size+1+1) (rb:=p.heap.size+1) (mb:=p.heap.size) (tb:=(Value.slice A ts.length c).ownBlock) (l:=ts)
   ⟨⟨⟨_,NL oA,bC (((Am.refl (fun _=>False) p).alloc _ |>.alloc _).own b9 (fun _ _=>id)) bu,rfl⟩,a4.ended,fun e=>by have:=(b0 _ e).2;omega⟩,World.ownsRow_nil _ _ _ _,World.ownsRow_nil _ _ _ _,World.ownsRow_nil _ _ _ _,(fun g hg=>by cases hg),nX,(fun g hg=>by have:=(b0 g hg).2;omega),oA,by simpa using a4.len,by simpa using a4.len,by simpa using a4.len⟩
   (World.ownsMap.alloc (World.ownsMap_made p Tryz.prog 9 (plainElem Tryz.prog 3)) _) nX nX (fun u hu=>(a4.all u hu).1))
  have b8:=Hd ((I.alloc (.map #[] 0)).alloc (oP #[oG A ts.length c,oG oN 0 0,oG oN 0 0,oG oN 0 0,oG oN 0 0,.map (oM p.heap.size)] 136));have b4:=Hd ((a5.alloc (.map #[] 0)).alloc (oP #[oG A ts.length c,oG oN 0 0,oG oN 0 0,oG oN 0 0,oG oN 0 0,.map (oM p.heap.size)] 136));have bk:=Hd ((ae.alloc (.map #[] 0)).alloc (oP #[oG A ts.length c,oG oN 0 0,oG oN 0 0,oG oN 0 0,oG oN 0 0,.map (oM p.heap.size)] 136));have ca:w.heap.size<=p.heap.size:=ae.size;clear b0 bw
  generalize (p.alloc (.map #[] 0)).alloc (oP #[oG A ts.length c,oG oN 0 0,oG oN 0 0,oG oN 0 0,oG oN 0 0,.map (oM p.heap.size)] 136)=w3 at *;generalize p.heap.size=mb at *;have au:=Hd (Zv a4);refine b7.mono ?_;intro e t l;obtain⟨an,l⟩:=l;have ai:=Hd (an.Aj b8 nX);have af:=Hd (an.Aj b4 nX);have aq:Hid (Am (fun _=>False) w t):=Hd (bk.trans an (fun a1 hi h=>by omega));clear an;cases hf:FC ts with
  | error f=>
   have HE:=Hd (a3 _ hf);have a7:=au.out;rw[hf]at a7 l;have a7:((f.1:Nat):Int)≠0:=by have:f.1≠0:=a7;omega
   have l:e=_:=l;subst l;simp only[bodyPostD];refine leaves_cons (f:=63) (args:=#[(i,0),(j,0)]) oA (by simp[go_sem]) ?_;refine(Vb (show Ah t i 47 #[oG oN 0 0,oG oN 0 0,oG oN 0 0,oH oO 0] from ai) af a7).mono ?_;rintro e u' w7 ⟨rfl,rfl,b,y1,y2,y3,y4⟩;simp only[settle,List.dropWhile_nil,Leaves];have J:=y2.cell 0;have P:=y2.cell 1;have R:=y2.cell 2;have T:=y2.cell 3;have o:=y3.cell 0;simp[ZG]at J P R T o;refine⟨.tuple #[.agg #[oG oN 0 0,oG oN 0 0,oG oN 0 0,oH oO 0],.iface 171 (b,0)],by simp[results,results38,go_sem,J,P,R,T,o],?_⟩
   rw[HE.out];exact⟨(aq.trans y4 (fun a1 hi h=>by omega)).below (Ay _) (fun _ _=>id),_,rfl,b,rfl,y1⟩
  | ok x=>
   have b5:=Hd (a3 _ hf);have hq:=au.out;rw[hf]at hq l;obtain⟨rfl,l',dv,kv,sv,rv,rs,D,b2,bf⟩:=l;obtain⟨bi,be⟩:=hq;have bm:=Hd bf;have ak:=Hd bi;have bl:=Hd b2;have bn:Hid (∀r∈rs,r.left.s.length<=8192/\∀q∈r.ss,(∀a2∈q.s.l,a2.s.length<=8192)/\q.s.l.length<=100000):=Hd (fun r hr=>by obtain⟨h1,h2⟩:=be r.r (by rw[<-b2];exact List.mem_map_of_mem hr);refine⟨h1.1,fun q hq=>?_⟩;have h3:=h2 q.s (List.mem_map_of_mem hq);exact⟨fun a2 C=>(h3.1 a2 C).1,h3.2⟩)
   clear hf bi b2 bf be au b7 b8 b4;go_wp2_with fail
   have bb:BS t (((t.alloc (.map #[] 0)).alloc (.map #[] 0)).alloc (oP #[(mb+1,0),.map (oM t.heap.size),.map (oM (t.heap.size+1)),oG oN 0 0,oG oN 0 0,oG oN 0 0,oH oO 0,oG oN 0 0] 140)) (t.heap.size+1+1) t.heap.size (t.heap.size+1) (mb+1) (oG oN 0 0) (oG oN 0 0) (oG oN 0 0) ⟨[],[],[]⟩ [] (.map []) (.map []):=by
    refine⟨((((Am.refl (fun _=>False) t).alloc _).alloc _).alloc _).below (Ay _) (fun _ _=>id),NL oA,World.ownsRow_nil _ _ _ _,World.ownsRow_nil _ _ _ _,World.ownsRow_nil _ _ _ _,rfl,(by simp),(fun k hk=>by cases hk),(by simp),(by simp),World.ownsMap.alloc (World.ownsMap.alloc (World.ownsMap_made t Tryz.prog 9 (plainElem Tryz.prog 3)) _) _,?_,Ic.start,Ic.start,⟨nX,Ay _,nX⟩,nX,oA,oA,oA⟩;have h:=World.ownsMap_made (H:=Unit) (t.alloc (.map #[] 0)) Tryz.prog 9 (plainElem Tryz.prog 3);rw[World.size_alloc]at h;exact h.alloc _
   have bj:=Hd (VH bb bm bl ak.same (fun a2 C=>(ak.decl a2 C).1) (fun a2 C=>(ak.starts a2 C).1) (gS ak) bn);clear bb;refine bj.mono ?_;intro e w6 l;obtain⟨a9,l⟩:=l;have U:=Hd (ai.below a9 ai.lt);have ag:=Hd (af.below a9 af.lt);have b3:Hid (Am (fun _=>False) w w6):=Hd (aq.next (.AJ a9));have cb:=a9.size;have bv:=aq.size;have c0:=U.lt;have bx:=ag.lt;have c6:i<t.heap.size/\j<t.heap.size:=⟨ai.lt,af.lt⟩
   clear a9;cases a6:GH x with
   | error f=>
    have HE:Hid (Fc s.data.toList=.error f):=Hd (by rw[b5.out,<-a6]);have a7:((f.1:Nat):Int)≠0:=by have:f.1≠0:=lh a6;omega
    rw[a6]at l;obtain⟨cd,bt,rfl⟩:=l;simp only[bodyPostD];refine leaves_cons (f:=63) (args:=#[(i,0),(j,0)]) oA (by simp[go_sem]) ?_;refine(Vb (show Ah w6 i 47 #[oG oN 0 0,oG oN 0 0,oG oN 0 0,oH oO 0] from U) ag a7).mono ?_;rintro e u' w7 ⟨rfl,rfl,b,y1,y2,y3,y4⟩;simp only[settle,VF bt,Leaves];have J:=y2.cell 0;have P:=y2.cell 1;have R:=y2.cell 2;have T:=y2.cell 3;have o:=y3.cell 0;simp[ZG]at J P R T o;refine⟨.tuple #[.agg #[oG oN 0 0,oG oN 0 0,oG oN 0 0,oH oO 0],.iface 171 (b,0)],by simp[results,results38,go_sem,J,P,R,T,o],?_⟩
    rw[HE.out];exact⟨(b3.trans y4 (fun a1 hi h=>by omega)).below (Ay _) (fun _ _=>id),_,rfl,b,rfl,y1⟩
   | ok g=>
    have HE:Hid (Fc s.data.toList=.ok g):=Hd (by rw[b5.out,<-a6]);rw[a6]at l;obtain⟨tv,nv,Rv,aw,rfl,aa⟩:=l;have HH:=Hd aa;obtain⟨A1,c1,rfl⟩:=BK aa.ft;obtain⟨A2,c2,rfl⟩:=BK aa.fn;obtain⟨A3,c3,rfl⟩:=BK aa.fR;have J:=U.cell 0;have P:=U.cell 1;have R:=U.cell 2;have T:=U.cell 3;have f0:=U.frozen 0;have f1:=U.frozen 1;have f2:=U.frozen 2;have f3:=U.frozen 3;have o:=ag.cell 0;have df:=ag.frozen 0;simp[ZG]at J P R T o;clear a6 aa;go_wp2;have bd:Am (fun a1=>a1=i\/a1=j) w6 (((((w6.setCell (i,0) (oG A1 g.T.length c1)).setCell (i,1) (oG A2 g.N.length c2)).setCell (i,2) (oG A3 aw.length c3)).setCell (i,3) g.s).setCell (j,0) .nilIface):=
     (((((Am.refl (fun a1=>a1=i\/a1=j) w6).set (p:=⟨i,0,oN⟩) (.inr (.inl rfl)) _).set (p:=⟨i,1,oN⟩) (.inr (.inl rfl)) _).set (p:=⟨i,2,oN⟩) (.inr (.inl rfl)) _).set (p:=⟨i,3,oN⟩) (.inr (.inl rfl)) _).set (p:=⟨j,0,oN⟩) (.inr (.inr rfl)) _
    simp only[bodyPostD];refine leaves_cons (f:=63) (args:=#[(i,0),(j,0)]) oA (by simp[go_sem]) ?_;refine gE.mono ?_;rintro e u' w7 ⟨rfl,rfl,rfl⟩;simp only[settle,Leaves];refine⟨.tuple #[.agg #[oG A1 g.T.length c1,oG A2 g.N.length c2,oG A3 aw.length c3,g.s],.nilIface],by simp[results,results38,go_sem,J,P,R,T,o],?_⟩;rw[HE.out];exact⟨(b3.trans bd (fun a1 hi h=>by omega)).below (Ay _) (fun _ _=>id),_,_,_,aw,rfl,(HH.AA bd (fun k hk h=>by omega)).mono bv⟩
end
section
open Go.RowKit Go.Proofs.Tryz Go.Maps
def OG{o:Type}{E:o->oV}{l:List o}(h:w.ownsRow B e 1 v l.length (l.map E))(j:l.length<=4611686018427387904):BH E w v l:=by
 rcases Bj h with⟨rfl,h0⟩|⟨b,c,rfl,I,p,t,J,_⟩
 ·exact⟨⟨oN,0,by rw[h0],fun k x i=>by have:=(sG.1 i).1;omega⟩,j,fun A n c e=>by cases e;exact⟨Ay _,fun _=>rfl⟩⟩
 ·refine⟨⟨_,c,rfl,fun k x i=>⟨b,0,rfl,p,?_⟩⟩,j,fun A n C e=>by cases e;exact⟨t,fun e=>by cases e⟩⟩
  have P:=(sG.1 i).1;rw[Nat.zero_add,Bh h k nX,pG,i];rfl
def BJ.ru(q:BJ):Ru:=⟨(q.left:Nat),q.v,q.r.map fun n:Nat=>(n:Int)⟩
def kZ(h:w.ownsRow B 113 2 v R.length (R.flatMap BJ.cells))(hr:∀q∈R,w.ownsRow B 3 1 q.v q.r.length (q.r.map Mark))(J:R.length<=4611686018427387904)(h8:∀q∈R,q.r.length<=8):Fe w v (R.map BJ.ru):=by
 have a1:∀q∈R,BH B4 w (BJ.ru q).v (BJ.ru q).right:=fun q i=>by
  have C:=hr q i;have e:(BJ.ru q).right.length=q.r.length:=by unfold BJ.ru;simp
  refine OG (B:=B) (e:=3) ?_ (by rw[e];have:=h8 q i;omega);rw[e];have P:(BJ.ru q).right.map B4=q.r.map Mark:=by unfold BJ.ru;rw[List.map_map];rfl
  rw[P];exact C
 rcases Bj h with⟨rfl,h0⟩|⟨b,c,rfl,C,T,U,h4,_⟩
 ·refine⟨⟨oN,0,by rw[lM,h0],fun k x l=>?_⟩,by rw[lM];exact J,fun A n c e=>by cases e;exact⟨Ay _,fun _=>rfl⟩⟩
  have:=(sG.1 l).1;rw[lM]at this;omega
 ·refine⟨⟨_,c,by rw[lM],fun k x l=>⟨b,0,rfl,T,?_⟩⟩,by rw[lM];exact J,fun A n c' e=>by cases e;exact⟨U,fun e=>by cases e⟩⟩
  rw[pG]at l;obtain⟨q,i,rfl⟩:=Option.map_eq_some_iff.1 l;obtain⟨hk,a0⟩:=sG.1 i;have I:∀j,j<2->(R.flatMap BJ.cells)[k*2+j]?=(BJ.cells q)[j]?:=fun j hj=>by rw[CP BJ.cells 2 BJ.MW R k j hk hj,a0]
  have o:=Bh h (k*2) nX;have p:=Bh h (k*2+1) nX;have t:=I 0 nX;rw[Nat.add_zero]at t;rw[t]at o;rw[I 1 nX]at p;rw[Nat.zero_add];exact⟨o,p,a1 q (mG i)⟩
def Ro{s:AP}(h:(CS s||CO s)=true):s.length<=1048576:=by
 rw[Bool.or_eq_true]at h;rcases h with h|h
 ·obtain⟨c,r,rfl,_,_,j⟩:=mH h
  omega
 ·obtain⟨m,rfl,_,_,i⟩:=XN h
  simp;omega
def ZJ{o:oU}{i:oV}(h:Has o w tv nv i g R):My g (R.map BJ.ru):=by
 refine⟨?_,fun r j=>?_⟩
 ·rw[<-h.r,List.map_map]
  refine List.map_congr_left fun q _=>?_
  unfold BJ.ru BJ.g;refine Prod.ext oA ?_;simp only[Function.comp,List.map_map];exact(List.map_congr_left (fun a _=>by simp[Function.comp])).trans (List.map_id q.r)
 ·obtain⟨q,_,rfl⟩:=List.mem_map.1 j
  refine⟨by unfold BJ.ru;simp,fun s l=>?_⟩;obtain⟨n,_,rfl⟩:=List.mem_map.1 l;omega
def ZK{o:oU}{i:oV}(h:Has o w tv nv i g R)(j:g.Good):∀q∈R,q.r.length<=8:=fun q l=>by have:=j.g4 q.g (by rw[<-h.r];exact List.mem_map_of_mem l);exact this
def Has.M8{j:oU}{l:oV}(h:Has j w tv nv l g R)(i:g.Good):Ev w (.agg #[tv,nv,l,g.s]) (Gm.GC g (R.map BJ.ru)):=by
 have U:=i.g1;have g2:=i.g2;have g3:=i.g3;have C:=ZK h i;have a0:R.length=g.R.length:=by rw[<-h.r,lM]
 have J:(g.T.map str).map Cp=g.T.map Nv:=by rw[List.map_map];rfl
 have I:(g.N.map str).map Cp=g.N.map Nv:=by rw[List.map_map];rfl
 refine⟨⟨tv,nv,l,rfl,OG (B:=j.heap.size) (e:=9) ?_ (by show (g.T.map str).length<=_;rw[lM];omega),OG (B:=j.heap.size) (e:=9) ?_ (by show (g.N.map str).length<=_;rw[lM];omega),kZ h.fR h.II nX C⟩,?_,?_,?_,?_,?_,?_⟩
 ·show w.ownsRow j 9 1 tv (g.T.map str).length ((g.T.map str).map Cp)
  rw[lM,J];exact h.ft
 ·show w.ownsRow j 9 1 nv (g.N.map str).length ((g.N.map str).map Cp)
  rw[lM,I];exact h.fn
 ·intro s o
  obtain⟨t,p,rfl⟩:=List.mem_map.1 o;rw[Lr];exact Ro (i.g5 t p)
 ·intro s o
  obtain⟨t,p,rfl⟩:=List.mem_map.1 o;rw[Lr];exact Ro (by rw[i.g6 t p];rfl)
 ·show (g.T.map str).length<=_
  rw[lM];omega
 ·show (g.N.map str).length<=_
  rw[lM];omega
 ·show (R.map BJ.ru).length<=_
  rw[lM];omega
 ·intro r T
  obtain⟨q,P,rfl⟩:=List.mem_map.1 T;have:=C q P;show (q.r.map fun n:Nat=>(n:Int)).length<=_;rw[lM];omega
end
def ZW(w:oU)(e:Ending)(w':oU):Prop:=Below w w w'/\∃l j i R g,Fc G4=.ok g/\Pv g=true/\e=oQ (.agg #[l,j,i,g.s])/\Has w w' l j i g R
def YV{s:ByteArray}(h:s.data.toList=G4):s.size<=4611686018427387904:=by
 have:s.size=G4.length:=by rw[<-h];exact(Array.length_toList (xs:=s.data)).symm
 rw[this];have:G4.length=2375:=by decide +kernel
 omega
def fF{b:Nat}{i j l o y0 y1 y2 y3:oV}(h:Ah w b t #[i,j,l,o]):Ah ((((w.setCell (b,0) y0).setCell (b,1) y1).setCell (b,2) y2).setCell (b,3) y3) b t #[y0,y1,y2,y3]:=by simpa using(((h.Ba 0 y0).Ba 1 y1).Ba 2 y2).Ba 3 y3
set_option maxRecDepth 1000000 in
def gR(hm:G2 w):() 14 #[] w (ZW w):=by
 obtain⟨g,U,hb⟩:=WT;have a0:Below w w (w.alloc (oP ZG 47)):=AG w _;have HP:Hid (∀s:ByteArray,s.data.toList=G4->() 38 #[oJ s] (w.alloc (oP ZG 47)) (Qb (w.alloc (oP ZG 47)) (.ok g))):=Hd (fun s hs=>by have h:=mz s (YV hs) (w.alloc (oP ZG 47)) (hm.later a0);rw[hs,U]at h;exact h)
 have HG:=Hd (And.intro U hb);clear U hb hm a0;unfold ZG at HP;go_enter func14,ntmps14
 go_wp2_with (go_at_call 38;refine(HP _ ?_).mono ?_)
 ·kernel_rfl
 rintro e J ⟨P,tv,nv,Rv,R,rfl,I⟩;have a2:=P.size;simp at a2;have a1:w.heap.size<J.heap.size:=by omega
 have C:Ah J w.heap.size 47 #[oG oN 0 0,oG oN 0 0,oG oN 0 0,oH oO 0]:=(Ah.new w 47 _).below P oA;have c0:=C.cell 0;have c1:=C.cell 1;have c2:=C.cell 2;have c3:=C.cell 3;have f0:=C.frozen 0;have f1:=C.frozen 1;have f2:=C.frozen 2;have f3:=C.frozen 3;simp at c0 c1 c2 c3;have HK:=Hd C;have HH:=Hd I;have HB:=Hd P;obtain⟨i,o,rfl⟩:=BK I.ft;obtain⟨j,p,rfl⟩:=BK I.fn;obtain⟨l,t,rfl⟩:=BK I.fR;clear P I C;go_wp2;have T:=Hd ((fF (y0:=oG i g.T.length o) (y1:=oG j g.N.length p) (y2:=oG l R.length t) (y3:=oH oO g.s) HK).alloc (oP #[oG i g.T.length o,oG j g.N.length p,oG l R.length t,g.s] 47))
 have z0:=T.cell 0;have z1:=T.cell 1;have z2:=T.cell 2;have z3:=T.cell 3;simp only[show (#[Value.slice i g.T.length o,oG j g.N.length p,oG l R.length t,g.s]:Array oV)[0]?=oM (oG i g.T.length o) from rfl,show (#[Value.slice i g.T.length o,oG j g.N.length p,oG l R.length t,g.s]:Array oV)[1]?=oM (oG j g.N.length p) from rfl,show (#[Value.slice i g.T.length o,oG j g.N.length p,oG l R.length t,g.s]:Array oV)[2]?=oM (oG l R.length t) from rfl,show (#[Value.slice i g.T.length o,oG j g.N.length p,oG l R.length t,g.s]:Array oV)[3]?=oM (oH oO g.s) from rfl]at z0 z1 z2 z3
 refine bodyPost_ret (v:=.agg #[oG i g.T.length o,oG j g.N.length p,oG l R.length t,g.s]) (by simp[results,results14,go_sem,z0,z1,z2,z3]) rfl ?_;have hX:Am (fun k=>k=w.heap.size) J ((((((J.setCell (w,0) (oG i g.T.length o)).setCell (w,1) (oG j g.N.length p)).setCell (w,2) (oG l R.length t)).setCell (w,3) g.s).alloc (oP #[oG i g.T.length o,oG j g.N.length p,oG l R.length t,g.s] 47))):=
  (((((Am.refl (fun k=>k=w.heap.size) J).set (p:=⟨w.heap.size,0,oN⟩) (.inr rfl) _).set (p:=⟨w.heap.size,1,oN⟩) (.inr rfl) _).set (p:=⟨w.heap.size,2,oN⟩) (.inr rfl) _).set (p:=⟨w.heap.size,3,oN⟩) (.inr rfl) _).alloc _
 refine⟨((AG w _).trans (HB.mono oA)).trans (hX.below (Nat.le_of_lt a1) (fun k hk e=>by omega)),_,_,_,R,g,HG.1,HG.2,rfl,(HH.AA hX (fun k hk e=>by simp at hk;omega)).mono oA⟩
