/- Whether a row of names is among those th. -/
import Derived.Test.YtlogpnoioimhjaaGreatDoorXaz
import Derived.Defers
import Derived.Recover
import Derived.Test.YtlogpnoioimhjaaGreatDoorXao
set_option linter.all false
set_option maxRecDepth 100000
set_option maxHeartbeats 16000000
namespace Go.Proofs.YtlogpnoioimhjaaGreatDoor
open Go.RowKit Go.Proofs.Tryz
variable{l:List Tk}{u:FrameMode}{o:Obj}{B c c2 k mb n s:Nat}{X:Nat->Prop}{w' w2:World}{e t:TypeId}{cs tmps:Array Value}{C D:DataW Unit}{x:Bl}{xs:List Value}{tb:Option Nat}{dv kv rv:Value}{rs:List Br}{i:List PanicEntry}{P:Program}
section
open Go.RowKit Go.Proofs.Tryz Go.Maps
def eS{w:World}{j l:Nat}{p:Addr}{u v:Value}{a b:List AO}(ha:w.ownsRow j 9 1 u a.length (a.map Nv))(i:w.ownsRow l 9 1 v b.length (b.map Nv))(I:w.cell? p=some u):() 128 #[v,.pointer (some p)] w fun e w'=>e=.returned (.bool (a==b))/\∃q,w'=w.drewN q:=by
 have o:=Hd (aZ ha i);clear ha i;go_enter func128,ntmps128
 go_wp2_with (go_at_call 129;refine o.mono ?_;intro e w' C;obtain⟨rfl,t⟩:=C)
 go_ret;exact⟨rfl,t⟩
def XM{o:Type}{p:o->Bool}{l:List o}{x:o}(I:l[k]?=some x)(C:p x=false)(t:∀j y,j<k->l[j]?=some y->p y=false):∀j y,j<k+1->l[j]?=some y->p y=false:=by
 intro j y J i;by_cases e:j=k
 ·subst e
  rw[I]at i;cases i
  exact C
 ·exact t j y (by omega) i
def Yx{w:World}{v:Value}{l:List BI}(H:w.ownsRow B 55 1 v l.length (l.map BI.v))(p:List AO->Bool)(g:Nat)(lb:Array Value)(eg:∀args y,(callFunc g args).run Tryz.prog y=.ok (.enter g args) y)
  (hp:∀x∈l,∀y,Below w w y->() g (#[x.v]++lb) y (fun e w'=>e=.returned (.bool (p x.l))/\Below y y w')) :
  () 169 #[v,.func (.func g) #[] lb] w fun e w'=>(∃i:Int,e=.returned (.int .i64 i)/\((∃x∈l,p x.l=true)/\0<=i\/(∀x∈l,p x.l=false)/\i = -1))/\Below w w w':=by
 obtain⟨A,c,rfl⟩:=BF H;have a2:l.length<=9223372036854775807:=by
  rcases Bi H with⟨_,h0⟩|⟨_,c3,_,_,_,h1,h2,_⟩
  ·omega
  ·unfold maxLen at h2;omega
 have HC:=Hd (fun(h:0<l.length)=>Lg H h);have HP:=Hd hp;clear H hp;go_enter func169,ntmps169
 go_wp2;go_loopw [5,8] (fun _ i wr=>∃k:Nat,k<=l.length/\i=.int .i64 k/\Hid (∀j y,j<k->l[j]?=some y->p y.l=false)/\Hid (Below w w wr)) (fun _ i _=>l.length-(intOf i).toNat)
 case atStart=>exact⟨0,AX _,rfl,Hd (fun j y P=>absurd P (Nat.not_lt_zero _)),Hd (Below.refl _ w)⟩
 case round=>
  obtain⟨k,hk,rfl,HA,o⟩:=hrel;by_cases a1:k<l.length
  ·have t:=eG a1
   generalize l[k]=x at t;have U:=mG t;obtain⟨b,c2,e1,a0⟩:=HC (by omega);cases e1
   have T:=a0 k x.v (by rw[pG,t];rfl);have a3:=(o.cell (p:=⟨b,k,none⟩) (World.block_lt_of_cell? w _ T)).trans T;have J:=Hd (HP x U wr o);have HX:=Hd t;have HM:=Hd U;clear t a0 U T HC;cases C:p x.l with
   | true=>
    rw[C]at J;have HQ:=Hd C;clear C;go_wp2_with (go_at_fn g;refine J.mono ?_;rintro e w' ⟨rfl,I⟩;have R:=Hd (o.trans (I.mono o.size));clear I)
    go_ret;exact⟨⟨_,rfl,.inl ⟨⟨x,HM,HQ⟩,by omega⟩⟩,R⟩
   | false=>
    rw[C]at J;have HN:=Hd (XM (p:=fun y:BI=>p y.l) HX C HA);clear C;go_wp2_with (go_at_fn g;refine J.mono ?_;rintro e w' ⟨rfl,I⟩;have R:=Hd (o.trans (I.mono o.size));clear I)
    go_roundw
    case rel=>exact⟨k+1,by omega,by go_num,HN,R⟩
    case measure=>simp[intOf];omega
  ·obtain rfl:k=l.length:=by omega
   have HI:Hid (∀x∈l,p x.l=false):=Hd (fun x t=>by obtain⟨j,P⟩:=List.mem_iff_getElem?.1 t;exact HA j x (sG.1 P).1 P)
   go_wp2;go_ret;exact⟨⟨_,rfl,.inr ⟨HI,rfl⟩⟩,o⟩
def ZT{w:World}{v:Value}{l:List BI}(H:w.ownsRow B 55 1 v l.length (l.map BI.v))(p:List AO->Bool)(g:Nat)(lb:Array Value)(t:∀args y,(callFunc g args).run Tryz.prog y=.ok (.enter g args) y)
  (J:∀x∈l,∀y,Below w w y->() g (#[x.v]++lb) y (fun e w'=>e=.returned (.bool (p x.l))/\Below y y w')) :
  () 127 #[v,.func (.func g) #[] lb] w fun e w'=>e=.returned (.bool ((l.map BI.l).any p))/\Below w w w':=by
 have R:=Hd (Yx H p g lb t J);obtain⟨A,c,rfl⟩:=BF H;clear H J t;generalize l.length=n at *;have a0:Hid ((∃x∈l,p x.l=true)->(l.map BI.l).any p=true):=Hd (fun⟨x,i,j⟩=>by rw[List.any_eq_true];exact⟨x.l,List.mem_map_of_mem i,j⟩);have U:Hid ((∀x∈l,p x.l=false)->(l.map BI.l).any p=false):=Hd (fun h=>by rw[List.any_eq_false];intro y hy;obtain⟨x,o,rfl⟩:=List.mem_map.1 hy;rw[h x o];simp);go_enter func127,ntmps127
 go_wp2_with (go_at_call 169;refine R.mono ?_;intro e w' o;obtain⟨⟨a1,rfl,I⟩,C⟩:=o;have T:=Hd I;have P:=Hd C;clear I C)
 go_ret;refine⟨CI ?_,P⟩;rcases T.out with⟨i,j⟩|⟨i,rfl⟩
 ·rw[a0.out i];simpa using j
 ·rw[U.out i];rfl
end
section
open Go.RowKit Go.Proofs.Tryz Go.Maps
def BQ.past{w0 w:World}{bb tm nm rb:Nat}{tv nv gv:Value}{b:Bd}{gs:List BI}{DT DN:DataW Unit}(h:BQ w0 w bb tm nm rb tv nv gv b gs DT DN)(i:Aj X w w')(h0:∀k,k<w0.heap.size->¬X k)
  (l:¬X bb) (t:¬X tm) (C:¬X nm) (J:∀g,tv.ownBlock=some g->¬X g) (P:∀g,nv.ownBlock=some g->¬X g) (o:∀g,gv.ownBlock=some g->¬X g) (I:∀q∈gs,∀g,q.v.ownBlock=some g->¬X g):BQ w0 w' bb tm nm rb tv nv gv b gs DT DN where
 below:=h.below.trans (i.below h.below.size h0)
 Ap:=i.Ap h.Ap l
 ft:=i.own h.ft J
 fn:=i.own h.fn P
 fg:=i.own h.fg o
 names:=h.names
 rows q j:=i.own (h.rows q j) (I q j)
 tn:=h.tn
 tr:=h.tr
 nr:=h.nr
 mt:=DY h.mt i t
 mn:=DY h.mn i C
 pt:=h.pt
 pn:=h.pn
 b0:=h.b0
 b1:=h.b1
 lt:=h.lt
 ln:=h.ln
 lr:=h.lr
def Og(bb tm nm:Nat)(tv nv gv:Value)(k:Nat):Prop:=Dw bb tm nm tv nv k\/gv.ownBlock=some k
def BK.MQ{w:World}{bb tm nm:Nat}{tv nv l j:Value}(o:BK w tv l)(t:BK w nv j):∀i,i<w.heap.size->Dw bb tm nm l j i->Dw bb tm nm tv nv i:=by
 intro i C h;rcases h with h|h|h|h|h
 ·exact .inl h
 ·exact .inr (.inl h)
 ·exact .inr (.inr (.inl h))
 ·rcases o i h with h|h
  ·exact .inr (.inr (.inr (.inl h)))
  ·omega
 ·rcases t i h with h|h
  ·exact .inr (.inr (.inr (.inr h)))
  ·omega
def BK.next{w i:World}{u v x:Value}(j:BK w u v)(l:BK i v x)(t:w.heap.size<=i.heap.size):BK w u x:=by
 intro k o;rcases l k o with h|h
 ·exact j k h
 ·exact .inr (AW t h)
structure Gc(w0 w:World)(bb tm nm rb:Nat)(tv0 nv0 gv:Value)(gs:List BI)(xb sb:Nat)(sv:Value)(p:Nat)(left:AO)(done:List AO)(b:Bd)(tv nv xv:Value)(DT DN:DataW Unit)(wr:World):Prop where
 at_:BQ w0 wr bb tm nm rb tv nv gv b gs DT DN
 box:Ah wr xb 55 #[xv]
 JI:Ah wr sb 183 #[sv,p]
 own:wr.ownsRow w 9 1 xv (done.length+1) ((left::done).map Nv)
 xt:∀k,xv.ownBlock=some k->¬tv.ownBlock=some k
 xn:∀k,xv.ownBlock=some k->¬nv.ownBlock=some k
 AE:Aj (Dw bb tm nm tv0 nv0) w wr
 nt:BK w tv0 tv
 nn:BK w nv0 nv
 hx:w.heap.size<=xb
 hs:w.heap.size<=sb
 h0:w0.heap.size<=w.heap.size
 hg:∀k,gv.ownBlock=some k->k<w.heap.size
 hq:∀q∈gs,∀k,q.v.ownBlock=some k->k<w.heap.size
def KQ{w0 w:World}{bb tm nm rb g:Nat}{tv nv gv:Value}{b:Bd}{gs:List BI}{DT DN:DataW Unit}(h:BQ w0 w bb tm nm rb tv nv gv b gs DT DN)(i:Ah w g t cs)(o:t≠146)(l:t≠9):¬Dw bb tm nm tv nv g:=by
 rintro(rfl|rfl|rfl|j|j)
 ·exact Ah.Bf i h.Ap o rfl
 ·exact G0 h.mt i rfl
 ·exact G0 h.mn i rfl
 ·exact Cz h.ft i (Ne.symm l) j
 ·exact Cz h.fn i (Ne.symm l) j
def YV{w0 w:World}{bb tm nm rb g:Nat}{tv nv gv:Value}{b:Bd}{gs:List BI}{DT DN:DataW Unit}(h:BQ w0 w bb tm nm rb tv nv gv b gs DT DN)(j:Ah w g t cs)(l:t≠146)(o:t≠9)(C:t≠55):¬Og bb tm nm tv nv gv g:=by
 rintro(i|i)
 ·exact KQ h j l o i
 ·exact Cz h.fg j (Ne.symm C) i
namespace Gc
variable {w0 w wr:World} {bb tm nm rb:Nat} {tv0 nv0 gv:Value} {gs:List BI} {xb sb:Nat} {sv:Value} {p:Nat} {left:AO} {done:List AO} {b:Bd} {tv nv xv:Value} {DT DN:DataW Unit}
def later(h:Gc w0 w bb tm nm rb tv0 nv0 gv gs xb sb sv p left done b tv nv xv DT DN wr)(j:Below wr wr w'):Gc w0 w bb tm nm rb tv0 nv0 gv gs xb sb sv p left done b tv nv xv DT DN w':=by have i:Aj (fun _=>False) wr w':=.AJ j;exact⟨h.at_.AE i (fun _ _=>id),i.Ap h.box id,i.Ap h.JI id,i.own h.own (fun _ _=>id),h.xt,h.xn,h.AE.next (.AJ j),h.nt,h.nn,h.hx,h.hs,h.h0,h.hg,h.hq⟩
def alloc(h:Gc w0 w bb tm nm rb tv0 nv0 gv gs xb sb sv p left done b tv nv xv DT DN wr)(o:Obj):Gc w0 w bb tm nm rb tv0 nv0 gv gs xb sb sv p left done b tv nv xv DT DN (wr.alloc o):=h.later (AG wr o)
def drew(h:Gc w0 w bb tm nm rb tv0 nv0 gv gs xb sb sv p left done b tv nv xv DT DN wr):Gc w0 w bb tm nm rb tv0 nv0 gv gs xb sb sv p left done b tv nv xv DT DN wr.drew:=h.later (IP wr)
def sym(h:Gc w0 w bb tm nm rb tv0 nv0 gv gs xb sb sv p left done b tv nv xv DT DN wr){J:Bd}{t o:Value}{I:DataW Unit}(ha:BQ w0 w2 bb tm nm rb t o gv J gs I C)(l:Aj (Dw bb tm nm tv nv) wr w2)(T:BK wr tv t)(P:BK wr nv o) :
  Gc w0 w bb tm nm rb tv0 nv0 gv gs xb sb sv p left done J t o xv I C w2:=by
 have a0:∀k,xv.ownBlock=some k->¬Dw bb tm nm tv nv k:=by
  rintro k i (rfl|rfl|rfl|j|j)
  ·exact Cz h.own h.at_.Ap (by decide) i
  ·exact Ga h.at_.mt h.own i
  ·exact Ga h.at_.mn h.own i
  ·exact h.xt k i j
  ·exact h.xn k i j
 have R:=h.AE.size;refine⟨ha,l.Ap h.box (KQ h.at_ h.box (by decide) (by decide)),l.Ap h.JI (KQ h.at_ h.JI (by decide) (by decide)),l.own h.own a0,?_,?_,h.AE.trans l (fun a1 U=>h.nt.MQ h.nn a1 U),h.nt.next T R,h.nn.next P R,h.hx,h.hs,h.h0,h.hg,h.hq⟩
 ·intro k i j
  rcases T k j with e|e
  ·exact h.xt k i e
  ·have:=(B4 h.own k i).2;omega
 ·intro k i j
  rcases P k j with e|e
  ·exact h.xn k i e
  ·have:=(B4 h.own k i).2;omega
def app(h:Gc w0 w bb tm nm rb tv0 nv0 gv gs xb sb sv p left done b tv nv xv DT DN wr){C:Option Addr}{s:AO}
  (ho:w2.ownsRow w 9 1 (.slice C (done.length+1+1) c2) (done.length+1+1) ((left::done).map Nv++[Nv s]))
  (U:(wr.alloc o).grownBy w2 xv.ownBlock/\((Value.slice C (done.length+1+1) c2).ownBlock=xv.ownBlock\/(Value.slice C (done.length+1+1) c2).ownBlock=some (wr.alloc o).heap.size)) :
  Gc w0 w bb tm nm rb tv0 nv0 gv gs xb sb sv p left (done++[s]) b tv nv (.slice C (done.length+1+1) c2) DT DN (w2.setCell (xb,0) (.slice C (done.length+1+1) c2)):=by
 have T:Aj (fun k=>xv.ownBlock=some k) wr w2:=((Aj.refl _ wr).alloc o).next (.CE U.1);have J:Aj (fun k=>xv.ownBlock=some k\/k=xb) wr (w2.setCell (xb,0) (.slice C (done.length+1+1) c2)):=(T.mono (fun i hi=>.inl hi)).set (p:=⟨xb,0,none⟩) (.inr (.inr rfl)) _;have I:∀k,xv.ownBlock=some k->w.heap.size<=k/\k<wr.heap.size:=fun k t=>B4 h.own k t
 have a1:=h.box.lt;have a0:=h.h0;have hx:=h.hx;have R:¬xv.ownBlock=some xb:=Cz h.own h.box (by decide);have e2:¬(xv.ownBlock=some sb\/sb=xb):=by
  rintro(e|rfl)
  ·exact Cz h.own h.JI (by decide) e
  ·exact Ah.Bf h.JI h.box (by decide) rfl
 have P:∀k,(Value.slice C (done.length+1+1) c2).ownBlock=some k->xv.ownBlock=some k\/wr.heap.size<=k:=by
  intro k t;rcases U.2 with e|e
  ·exact .inl (e▸t)
  ·rw[e]at t;cases t;exact .inr (by simp)
 refine⟨h.at_.past J ?_ ?_ ?_ ?_ ?_ ?_ ?_ ?_,?_,J.Ap h.JI e2,?_,?_,?_,(h.AE.trans (J.mono (Y:=fun k=>w.heap.size<=k) ?_) (fun i hi j=>by omega)),h.nt,h.nn,h.hx,h.hs,h.h0,h.hg,h.hq⟩
 ·rintro k t (j|j)
  ·have:=(I k j).1;omega
  ·omega
 ·rintro(j|j)
  ·exact Cz h.own h.at_.Ap (by decide) j
  ·subst j;exact Ah.Bf h.box h.at_.Ap (by decide) rfl
 ·rintro(j|j)
  ·exact Ga h.at_.mt h.own j
  ·exact G0 h.at_.mt h.box j
 ·rintro(j|j)
  ·exact Ga h.at_.mn h.own j
  ·exact G0 h.at_.mn h.box j
 ·rintro g l (j|j)
  ·exact h.xt g j l
  ·subst j;exact Cz h.at_.ft h.box (by decide) l
 ·rintro g l (j|j)
  ·exact h.xn g j l
  ·subst j;exact Cz h.at_.fn h.box (by decide) l
 ·rintro g l (j|j)
  ·have:=h.hg g l;have:=(I g j).1;omega
  ·have:=h.hg g l;omega
 ·rintro q hq g l (j|j)
  ·have:=h.hq q hq g l;have:=(I g j).1;omega
  ·have:=h.hq q hq g l;omega
 ·simpa using(T.Ap h.box R).Be 0 (.slice C (done.length+1+1) c2)
 ·rw[show (done++[s]).length+1=done.length+1+1 by simp,show (left::(done++[s])).map Nv=(left::done).map Nv++[Nv s] by simp]
  refine EC ho ?_ _;intro e;rcases P _ e with e|e
  ·exact R e
  ·simp at e;omega
 ·intro k t j
  rcases P k t with e|e
  ·exact h.xt k e j
  ·have:=(B4 h.at_.ft k j).2;omega
 ·intro k t j
  rcases P k t with e|e
  ·exact h.xn k e j
  ·have:=(B4 h.at_.fn k j).2;omega
 ·rintro i (j|j)
  ·exact(I i j).1
  ·omega
end Gc
def eL{w0 w:World}{bb tm nm rb:Nat}{tv nv gv xv:Value}{b:Bd}{gs:List BI}{DT DN:DataW Unit}{x:List AO}{l:Option Addr}
  (h:BQ w0 w bb tm nm rb tv nv gv b gs DT DN) (hx:w.ownsRow w0 9 1 xv x.length (x.map Nv)) (a1:∀k,xv.ownBlock=some k->¬tv.ownBlock=some k) (a0:∀k,xv.ownBlock=some k->¬nv.ownBlock=some k) (a3:b.R.length<300)
  (ho:w2.ownsRow w0 55 1 (.slice l (gs.length+1) c2) (gs.length+1) (gs.map BI.v++[xv]))
  (hg:(w.alloc o).grownBy w2 gv.ownBlock/\((Value.slice l (gs.length+1) c2).ownBlock=gv.ownBlock\/(Value.slice l (gs.length+1) c2).ownBlock=some (w.alloc o).heap.size)) :
  BQ w0 (w2.setCell (bb,7) (.slice l (gs.length+1) c2)) bb tm nm rb tv nv (.slice l (gs.length+1) c2) {b with R:=b.R++[x]} (gs++[⟨xv,x⟩]) DT DN/\Aj (fun k=>gv.ownBlock=some k\/k=bb) w (w2.setCell (bb,7) (.slice l (gs.length+1) c2)):=by
 have hX:Aj (fun k=>gv.ownBlock=some k) w w2:=((Aj.refl _ w).alloc o).next (.CE hg.1);have I:Aj (fun k=>gv.ownBlock=some k\/k=bb) w (w2.setCell (bb,7) (.slice l (gs.length+1) c2)):=(hX.mono (fun a4 hi=>.inl hi)).set (p:=⟨bb,7,none⟩) (.inr (.inr rfl)) _;have U:¬gv.ownBlock=some bb:=Cz h.fg h.Ap (by decide);have J:∀{n:Nat} {v:Value} {T:List Value},w.ownsRow w0 9 1 v n T->(w2.setCell (bb,7) (.slice l (gs.length+1) c2)).ownsRow w0 9 1 v n T:=by
  intro n v T R;refine I.own R ?_;rintro k t (j|rfl)
  ·exact Gf R h.fg (by decide) k t j
  ·exact Cz R h.Ap (by decide) t
 have a2:=h.Ap.lt;refine⟨⟨?_,?_,J h.ft,J h.fn,?_,by rw[By,h.names];rfl,?_,h.tn,?_,?_,DY h.mt I ?_,DY h.mn I ?_,h.pt,h.pn,h.b0,h.b1,h.lt,h.ln,by simp;omega⟩,I⟩
 ·refine h.below.trans (I.below h.below.size ?_)
  rintro k t (j|j)
  ·have:=(B4 h.fg k j).1;omega
  ·have:=h.b0.1;omega
 ·simpa using(hX.Ap h.Ap U).Be 7 (.slice l (gs.length+1) c2)
 ·rw[show (gs++[(⟨xv,x⟩:BI)]).length=gs.length+1 by simp,By]
  refine EC ho ?_ _;intro e;rcases hg.2 with P|P
  ·exact U (P▸e)
  ·rw[P]at e;injection e with e;simp at e;omega
 ·intro q i
  rcases mA.1 i with i|i
  ·exact J (h.rows q i)
  ·rw[mS.1 i];exact J hx
 ·intro q i k t C
  rcases mA.1 i with i|i
  ·exact h.tr q i k t C
  ·rw[mS.1 i]at C;exact a1 k C t
 ·intro q i k t C
  rcases mA.1 i with i|i
  ·exact h.nr q i k t C
  ·rw[mS.1 i]at C;exact a0 k C t
 ·rintro(j|j)
  ·exact Ga h.mt h.fg j
  ·exact G0 h.mt h.Ap j
 ·rintro(j|j)
  ·exact Ga h.mn h.fg j
  ·exact G0 h.mn h.Ap j
end
variable{rb:Nat}{DN DT:DataW Unit}{sv:Value}
section
open Go.RowKit Go.Proofs.Tryz Go.Maps
def aN{w:World}{g:Nat}(h:Ah w g e cs)(j:B<=g)(i:cs.size=n)(l:n<=maxLen):w.ownsRow B e 1 (.slice (g,0) n n) n cs.toList:=by refine⟨by simp[i],.inr ⟨g,n,cs,rfl,j,h,AF _,l,by simp[i],?_⟩⟩;rw[De (by simp[i])]
def eM:El Tryz.prog 144 55 1 24:=El.of (z:=.slice none 0 0) underlying144 (by kernel_rfl) rfl (by decide)
def XY(i w:World)(j C p rb:Nat)(tv nv l:Value)(r:Except Bm Bd)(e:Ending)(w':World):Prop:=
 Below i i w'/\match r with
 | .ok b=>e=.returned (.tuple #[])/\∃I t o R P J,BQ i w' j C p rb I t o b R P J/\Aj (Og j C p tv nv l) w w'/\BK w tv I/\BK w nv t/\BK w l o
 | .error f=>BW f e
def Ny{w:World}{g:Nat}{t:Tk}(h:w.ownsRow B 173 3 (.slice (g,0) l.length c) l.length (l.flatMap Tk.cells))(P:l[k]?=some t) :
  w.cell? (g,k*3)=some (.int .i64 t.k)/\w.cell? (g,k*3+1)=some (.string (str t.s))/\w.cell? (g,k*3+2)=some (.int .i64 t.p):=by
 obtain⟨J,R⟩:=sG.1 P;have i:∀j,j<3->(l.flatMap Tk.cells)[k*3+j]?=(Tk.cells t)[j]?:=fun j I=>by rw[CJ Tk.cells 3 Tk.MB l k j J I,R]
 have o:=Bh h (k*3) (by omega);have p:=Bh h (k*3+1) (by omega);have C:=Bh h (k*3+2) (by omega);rw[o,p,C,i 1 (by omega),i 2 (by omega)];have:=i 0 (by omega);rw[Nat.add_zero]at this;rw[this];exact⟨rfl,rfl,rfl⟩
def Jn{w:World}{v:Value}(h:w.ownsRow B e s v n xs)(i:0<n):∃g c,v=.slice (some ⟨g,0,none⟩) n c:=by
 rcases Bi h with⟨rfl,h0⟩|⟨g,c,rfl,_⟩
 ·omega
 ·exact⟨g,c,rfl⟩
def XT{R w:World}{bb tm nm:Nat}{tv nv gv:Value}{b:Bd}{j:List BI}(h:BQ R w bb tm nm rb tv nv gv b j DT DN)(hr:DS R B rb mb tb l x dv kv sv rv rs D)(ai:rs.map Br.r=x.rules)
  (left:AO) (q:GS) (hq:IY R B q) (aj:∀t∈q.s.l,t.s.length<=8192) (c8:q.s.l.length<=100000) :
  () 91 #[(bb,0),.string (str left),.agg #[q.v,q.s.p]] w (XY R w bb tm nm rb tv nv gv (Ec (leftOf x) b left q.s)):=by
 obtain⟨c0,c1,c2,c3,c4,c7,bo⟩:=h.cells;have ay:j.length=b.R.length:=by rw[<-h.names,lM]
 have a1:R.ownsRow B 173 3 q.v q.s.l.length (q.s.l.flatMap Tk.cells):=hq;obtain⟨As,cs,ab⟩:=BF a1;obtain⟨Ag,cg,rfl⟩:=BF h.fg;by_cases a3:300<=b.R.length
 ·have q1:(300:Int)<=(j.length:Int):=by omega
  have HE:Hid (Ec (leftOf x) b left q.s=.error (7,q.s.p)):=Hd (by simp[Ec,a3]);have HA:=Hd (h.alloc (.cells #[q.v,q.s.p] 183));rw[ab]at HA ⊢;clear h hr ai hq aj a1 ay a3;generalize j.length=n at *;generalize q.s.l.length=n2 at *;go_enter func91,ntmps91
  go_wp2_with (go_at_call 124;refine(Ep _ _ _).mono ?_;rintro e w' ⟨rfl,a5⟩;subst a5)
  refine⟨rfl,HA.below,?_⟩;rw[HE.out];exact BW.of rfl rfl
 ·have q1:¬(300:Int)<=(j.length:Int):=by omega
  have bp:b.R.length<300:=by omega
  have bc:Hid (∀p,DV (leftOf x) b 0 q.s.l=.ok p->p.R=b.R->Ec (leftOf x) b left q.s=if b.R.contains (left::q.s.l.map Tk.s) then .error (8,q.s.p) else .ok {p with R:=p.R++[left::q.s.l.map Tk.s]}):=Hd (fun p o P=>by unfold Ec;rw[if_neg a3,o];simp only;rw[P]);have bd:Hid (∀f,DV (leftOf x) b 0 q.s.l=.error f->Ec (leftOf x) b left q.s=.error f):=Hd (fun f o=>by unfold Ec;rw[if_neg a3,o]);have b4:=h.below.size;have b3:Gc R w bb tm nm rb tv nv (.slice Ag j.length cg) j (w.heap.size+1+1) w.heap.size q.v q.s.p left [] b tv nv (.slice (w.heap.size+1,0) 1 1) DT DN (((w.alloc (.cells #[q.v,q.s.p] 183)).alloc (.cells #[.string (str left)] 9)).alloc (.cells #[.slice (w.heap.size+1,0) 1 1] 55)):=by
   have k1:=Ah.new w 183 #[q.v,q.s.p];have k2:=Ah.new (w.alloc (.cells #[q.v,q.s.p] 183)) 9 #[.string (str left)];have k3:=Ah.new ((w.alloc (.cells #[q.v,q.s.p] 183)).alloc (.cells #[.string (str left)] 9)) 55 #[.slice (w.heap.size+1,0) 1 1];rw[World.size_alloc]at k2;rw[World.size_alloc,World.size_alloc]at k3;refine⟨((h.alloc _).alloc _).alloc _,k3,(k1.alloc _).alloc _,?_,?_,?_,(((Aj.refl _ w).alloc _).alloc _).alloc _,BK.refl _ _,BK.refl _ _,by omega,AF _,b4,fun k C=>(B4 h.fg k C).2,fun q' bq k C=>(B4 (h.rows q' bq) k C).2⟩
   ·exact aN (k2.alloc _) (by omega) rfl (by unfold maxLen;omega)
   ·rintro k C hh
    cases C
    have P:=(B4 h.ft _ hh).2;simp at P;omega
   ·rintro k C hh
    cases C
    have P:=(B4 h.fn _ hh).2;simp at P;omega
  have ar:=Hd b3;have HH:=Hd h;have HR:=Hd hr;have bh:=Hd ai;have bx:=Hd a1;have bi:=Hd aj;have HL:Hid (∀k t,q.s.l[k]?=some t->∃g c,q.v=.slice (some ⟨g,0,none⟩) q.s.l.length c/\∀w',Below R R w'->w'.cell? ⟨g,k*3,none⟩=some (.int .i64 t.k)/\w'.cell? ⟨g,k*3+1,none⟩=some (.string (str t.s))/\w'.cell? ⟨g,k*3+2,none⟩=some (.int .i64 t.p)):=Hd (fun k t U=>by obtain⟨C,_⟩:=sG.1 U;obtain⟨g,c,hv⟩:=Jn a1 (by omega);refine⟨g,c,hv,fun w' a5=>?_⟩;have P:=(Aj.AJ (X:=fun _=>False) a5).own a1 (fun _ _=>id);rw[hv]at P;exact Ny P U)
  clear h hr ai hq aj a1 b3 ay;have bf:=Hd ab;rw[ab]at ar ⊢;clear ab c0 c1 c2 c3 c4;generalize b1:q.s.l.length=nl at *;have ae:=Hd b1;clear b1;have c6:j.length<=300:=by omega
  have c9:∀(fn:Fn) (first cap:Array Value) (w:World),(Instr.makeFunc fn first cap).run Tryz.prog w=.ok (.func fn first cap) w:=fun _ _ _ _=>rfl
  go_enter func91,ntmps91
  go_wp2;generalize bu:(((w.alloc (.cells #[.slice As nl cs,q.s.p] 183)).alloc (.cells #[.string (str left)] 9)).alloc (.cells #[.slice (w.heap.size+1,0) 1 1] 55))=wS at *;generalize cc:w.heap.size+1+1=xb at *;clear bu c7;go_loopw [23] (fun ad wr=>∃(k:Nat) (done:List AO) (p:Bd) (b6 b5 xv:Value) (an al:DataW Unit),k<=nl/\ad=.int .i64 k/\done.length=k/\Hid (Gc R w bb tm nm rb tv nv (.slice Ag j.length cg) j xb w.heap.size (.slice As nl cs) q.s.p left done p b6 b5 xv an al wr)/\Hid (done=(q.s.l.take k).map Tk.s)/\Hid (DV (leftOf x) b 0 q.s.l=DV (leftOf x) p k (q.s.l.drop k))/\Hid (p.R=b.R)) (fun ad _=>nl-(intOf ad).toNat)
  case atStart=>exact⟨0,[],b,tv,nv,_,DT,DN,AX _,rfl,rfl,ar,Hd rfl,Hd rfl,Hd rfl⟩
  case round=>
   obtain⟨_,done,p,b6,b5,xv,an,al,C,rfl,rfl,I,HD,HY,a6⟩:=hrel;by_cases b0:done.length<nl
   ·obtain⟨t,U⟩:∃t,q.s.l[done.length]?=some t:=⟨_,eG (by rw[ae.out];exact b0)⟩
    obtain⟨g,c,az,aw⟩:=HL done.length t U;obtain⟨e0,e1,e2⟩:=aw wr I.at_.below;rw[bf.out]at az;cases az
    have ax:q.s.l.drop done.length=t::q.s.l.drop (done.length+1):=by obtain⟨ag,e⟩:=sG.1 U;rw[List.drop_eq_getElem_cons ag,e]
    have ba:Hid (done++[t.s]=(q.s.l.take (done.length+1)).map Tk.s):=Hd (by obtain⟨ag,e⟩:=sG.1 U;have o:=HD.out;rw[List.take_succ_eq_append_getElem ag,e,By,<-o];rfl)
    have bt:=bi t (mG U);have af:=Hd (I.alloc (.cells #[t.k,.string (str t.s),t.p] 173));have a9:=Hd (Vy af.at_ HR bh t bt done.length (done.length:Int) rfl);have ao:=Hd (Ah.new wr 173 #[t.k,.string (str t.s),t.p]);have au:Hid (∀r,D5 (leftOf x) p t done.length=r->DV (leftOf x) b 0 q.s.l=match r with | .error e=>.error e | .ok b2=>DV (leftOf x) b2 (done.length+1) (q.s.l.drop (done.length+1))):=Hd (fun r hr=>by rw[HY.out,ax,DV,hr];cases r<;>rfl);clear U aw ax
    obtain⟨Ax,cx,ak⟩:=BF I.own;subst ak;cases i:D5 (leftOf x) p t done.length with
    | error f=>
     have HE:=Hd (bd f (au _ i));rw[i]at a9;clear i;go_wp2_with (go_at_call 126;refine a9.mono ?_;intro e w2 hx;obtain⟨a0,hx⟩:=hx;have hx:e=_:=hx;subst hx)
     refine⟨rfl,a0,?_⟩;rw[HE.out];exact BW.of rfl rfl
    | ok b2=>
     have bl:=Hd (au _ i);have b9:Hid (b2.R=b.R):=Hd (by
      have o:=a6.out;unfold D5 at i;split at i
      ·cases i
      split at i
      ·injection i with i;rw[<-i];exact o
      split at i
      ·split at i
       · cases i
       · injection i with i;rw[<-i];exact o
      split at i
      ·injection i with i;rw[<-i];exact o
      ·cases i)
     rw[i]at a9;clear i;have ca:=I.AE.size;go_wp2_with (first
      | (
        go_at_call 126;refine a9.mono ?_;intro e w2 hx;obtain⟨a0,rfl,bw,bv,b8,b7,z1,z2,z3,z4⟩:=hx
        have a2:=Hd (af.sym z1 z2 z3 z4);have bk:=Hd (z2.Ap ao (KQ af.at_ ao (by decide) (by decide)));have x1:=bk.cell 1;have y0:=a2.box.cell 0;have y1:=a2.box.frozen 0;have br:=z2.size;simp at x1 y0 br;clear a0 z1 z2 z3 z4)
      | (
        at_builtin;refine Dc OG (.tmp 32) (.tmp 35) rfl rfl (base:=w.heap.size) (n:=done.length+1) (m:=1) (N:=done.length+1+1) (xs:=(left::done).map Nv) (news:=[Nv t.s]) rfl rfl (a2.own.alloc _) (Oy w2 _) rfl (by unfold maxLen;omega) (by omega) (by simp;omega) ?_
        intro A3 c3 w3 r1 r2 r3;have HF:=Hd (a2.app r1 r3);have ah:=r2.Ap (a2.box.alloc _) (.inr (by decide));have z0:=ah.cell 0;have zf:=ah.frozen 0;simp at z0;clear r1 r2 r3 ah))
     go_roundw
     case rel=>exact⟨done.length+1,done++[t.s],b2,bw,bv,_,b8,b7,by omega,by go_num,by simp,HF,ba,bl,b9⟩
     case measure=>simp[intOf];omega
   ·obtain rfl:nl=done.length:=by omega
    have HX:Hid (done=q.s.l.map Tk.s):=Hd (by have o:=HD.out;rw[De (by have:=ae.out;omega)]at o;exact o)
    have bj:Hid (DV (leftOf x) b 0 q.s.l=.ok p):=Hd (by have o:=HY.out;rw[List.drop_of_length_le (by have:=ae.out;omega)]at o;exact o)
    have a8:=Hd (ZT I.at_.fg (fun l=>(left::done)==l) 128 #[(xb,0)] (fun _ _=>by kernel_rfl) (fun u hu y hy=>by have o:=I.later hy;refine(eS (p:=⟨xb,0,none⟩) (a:=left::done) o.own (o.at_.rows u hu) (o.box.cell 0)).mono ?_;rintro e w' ⟨P,n,rfl⟩;exact⟨P,⟨rfl,rfl,rfl,AF _,fun _ _=>rfl⟩⟩))
    have a7:Hid (b.R.contains (left::q.s.l.map Tk.s)=(j.map BI.l).any fun l=>(left::done)==l):=Hd (by rw[I.at_.names,a6.out,<-HX.out];exact List.contains_eq_any_beq)
    have aq:=Hd (bc p bj a6);have bn:p.R.length<300:=by rw[a6.out];exact bp
    obtain⟨Ax,cx,ak⟩:=BF I.own;subst ak;obtain⟨c0,c1,c2,c3,c4,c7,av⟩:=I.at_.cells;clear b0 bo a3;cases aa:(j.map BI.l).any fun l=>(left::done)==l with
    | true=>
     rw[aa]at a8 a7;clear aa;have HE:Hid (Ec (leftOf x) b left q.s=.error (8,q.s.p)):=Hd (by rw[aq.out,a7.out];rfl);go_wp2_with (first
      | (
        go_at_call 127;refine a8.mono ?_;rintro e w3 ⟨rfl,a4⟩
        have T:=Hd (I.later a4);have y1:=T.JI.cell 1;simp at y1;clear a4)
      | (go_at_call 124;refine(Ep _ _ _).mono ?_;rintro e w' ⟨rfl,a5⟩;subst a5))
     refine⟨rfl,T.at_.below,?_⟩;rw[HE.out];exact BW.of rfl rfl
    | false=>
     rw[aa]at a8 a7;clear aa;have HE:Hid (Ec (leftOf x) b left q.s=.ok {p with R:=p.R++[left::done]}):=Hd (by rw[aq.out,a7.out,<-HX.out];rfl);go_wp2_with (
          go_at_call 127;refine a8.mono ?_;rintro e w3 ⟨rfl,a4⟩
          have T:=Hd (I.later a4);clear a4)
     clear c0 c1 c2 c3 c4 c7 av;obtain⟨c0,c1,c2,c3,c4,c7,av⟩:=T.at_.cells;have y0:=T.box.cell 0;simp at y0;have cd:=T.box.lt;have J:=Hd T.drew;have cb:=T.AE.size;have bz:=j.length;go_region_law (go_loud (
           refine EG eM (.tmp 51) (.tmp 53) ?_ ?_ (base:=R.heap.size) (n:=j.length) (m:=1) (N:=j.length+1) (v:=.slice Ag j.length cg) (src:=.slice (w3,0) 1 1) (xs:=j.map BI.v) (news:=[.slice Ax (done.length+1) cx]) ?_ ?_ ?_ ?_ ?_ ?_ ?_ ?_ ?_
           ·rfl
           ·rfl
           ·rfl
           ·rfl
           ·exact J.at_.fg.alloc _
           ·exact AY.Ap (c:=1) (Ah.new w3.drew 55 #[.slice Ax (done.length+1) cx]) rfl (by simp[Value.oneCell'])
           ·rfl
           ·unfold maxLen;omega
           ·omega
           ·simp;omega
           intro A4 bm w4 q1 q2 q3;have HF:=Hd (eL (x:=left::done) J.at_ (IZ J.own b4) J.xt J.xn bn q1 q3);have be:Hid (BK w (.slice Ag j.length cg) (.slice A4 (j.length+1) bm)):=Hd (fun k C=>by
            rcases q3.2 with e|e
            ·exact .inl (e▸C)
            ·rw[e]at C;cases C;exact .inr (by simp;omega))
           have hX:Aj (fun k=>(Value.slice Ag j.length cg).ownBlock=some k) w3.drew w4:=((Aj.refl _ w3.drew).alloc (.cells #[.slice Ax (done.length+1) cx] 55)).next (.CE q3.1);have a0:=hX.Ap J.at_.Ap (Cz J.at_.fg J.at_.Ap (by decide));have z7:=a0.cell 7;have zf:=a0.frozen 7;simp at z7;clear q1 q2 q3 hX a0))
     all_goals go_wp2
     all_goals go_end0
     all_goals refine⟨HF.1.below,?_⟩
     all_goals rw[HE.out]
     all_goals refine⟨rfl,_,_,_,_,_,_,HF.1,?_,J.nt,J.nn,be⟩
     all_goals exact(J.AE.mono (fun _ h=>.inl h)).next (HF.2.mono (fun ad hi=>hi.elim .inr (fun h=>.inl (.inl h))))
end
section
open Go.RowKit Go.Proofs.Tryz Go.Maps
def Hn(b:Bd):Except Bm (List AO)->Except Bm Bd
 | .ok T=>.ok {b with T:=T}
 | .error f=>.error f
def OD{b:Bd}{t:Tk}(i:t.s ∉ b.T):Hx b t=match Ct b.T t with | .error e=>.error e | .ok T=>.ok {b with T:=T}:=by
 unfold Hx Ct;rw[if_neg (show ¬b.T.contains t.s=true by simpa using i)];by_cases h:120<=b.T.length
 ·rw[if_pos h,if_pos h]
 ·rw[if_neg h,if_neg h]
def O3{m:Nat}{st:Tk}(h:BZ x=some (m,st)):(∃r,x.marks=m::r)/\∃r,x.starts=st::r:=by
 unfold BZ at h;split at h
 ·rename_i l o
  injection h with h;injection h with i j;subst i;subst j;exact⟨⟨_,l⟩,⟨_,o⟩⟩
 ·cases h
theorem fJ(j:x.marks.length=x.starts.length)(h:BZ x=none):x.starts.length=0:=by
 unfold BZ at h;split at h
 ·cases h
 ·rename_i l
  cases i:x.marks with
  | nil=>rw[i]at j;simpa using j.symm
  | cons a r=>
   cases o:x.starts with
   | nil=>rfl
   | cons s q=>exact absurd o (fun e=>l a r s q i e)
def NS{T w:World}{i R P:Nat}{tv nv C:Value}{b:Bd}{p:List BI}{l j:DataW Unit}(h:BQ T w i R P rb tv nv C b p l j)(t:Tk)(I:120<=b.T.length) :
  () 168 #[(i,0),.agg #[t.k,.string (str t.s),t.p]] w fun e w'=>BW (7,t.p) e/\Below w w w':=by
 obtain⟨A,c,rfl⟩:=BF h.ft;have o:=Hd (AG w (.cells #[t.k,.string (str t.s),t.p] 173));obtain⟨U,c1,c2,c3,c4,c7,a0⟩:=h.cells;have q1:(120:Int)<=(b.T.length:Int):=by omega
 clear h I;generalize b.T.length=n at *;go_enter func168,ntmps168
 go_wp2_with (go_at_call 124;refine(Ep _ _ _).mono ?_;rintro e w' ⟨rfl,J⟩;subst J)
 exact⟨rfl,BW.of rfl rfl,o⟩
def YS(R w:World)(j o l rb:Nat)(tv nv I:Value)(C:List BI)(r:Except Bm Bd)(e:Ending)(w':World):Prop:=
 ∃i P J t p,BQ R w' j o l rb P J I i C t p/\Aj (Dw j o l tv nv) w w'/\match r with
 | .ok b=>e=.returned (.tuple #[])/\i=b
 | .error f=>BW f e
def aT{w0 w:World}{bb tm nm:Nat}{tv nv gv:Value}{b:Bd}{gs:List BI}(h:BQ w0 w bb tm nm rb tv nv gv b gs DT DN)(hr:DS w0 B rb mb tb l x dv kv sv rv rs D)(br:rs.map Br.r=x.rules)
  (bt:x.marks.length=x.starts.length) (bu:∀t∈x.decl,t.s.length<=8192) (bv:∀t∈x.starts,t.s.length<=8192) :
  () 125 #[(bb,0)] w (YS w0 w bb tm nm rb tv nv gv gs (Hn b (BJ (leftOf x) (BZ x) x.decl b.T))):=by
 obtain⟨c0,c1,c2,c3,c4,c7,aa⟩:=h.cells;obtain⟨k1,k2,k3,_,_,_⟩:=(hr.later h.below).Bu.A0.cells;have bz:Hid (∀J,Below w0 w0 J->J.cell? (rb,2)=some kv/\J.cell? (rb,3)=some sv):=Hd (fun J hb=>by obtain⟨_,a2,a3,_,_,_⟩:=(hr.later hb).Bu.A0.cells;exact⟨a2,a3⟩)
 obtain⟨As,cs,bw⟩:=BF hr.Bu.starts;obtain⟨Ad,cd,bp⟩:=BF hr.Bu.decl;have HL:Hid (∀k t,x.decl[k]?=some t->∃g c,dv=.slice (some ⟨g,0,none⟩) x.decl.length c/\∀J,Below w0 w0 J->J.cell? ⟨g,k*3,none⟩=some (.int .i64 t.k)/\J.cell? ⟨g,k*3+1,none⟩=some (.string (str t.s))/\J.cell? ⟨g,k*3+2,none⟩=some (.int .i64 t.p)):=Hd (fun k t ht=>by obtain⟨hk,_⟩:=sG.1 ht;obtain⟨g,c,hv⟩:=Jn hr.Bu.decl (by omega);refine⟨g,c,hv,fun J a9=>?_⟩;have h2:=(Aj.AJ (X:=fun _=>False) a9).own hr.Bu.decl (fun _ _=>id);rw[hv]at h2;exact Ny h2 ht)
 have HM:Hid (∀m U,BZ x=some (m,U)->∃g c,kv=.slice (some ⟨g,0,none⟩) x.marks.length c/\0<x.marks.length/\∀J,Below w0 w0 J->J.cell? ⟨g,0,none⟩=some (.int .i64 m)):=Hd (fun m U P=>by
  obtain⟨⟨r,e1⟩,r2,e2⟩:=O3 P;have b9:0<x.marks.length:=by rw[e1];simp
  obtain⟨g,c,hv⟩:=Jn hr.Bu.marks b9;refine⟨g,c,hv,b9,fun J a9=>?_⟩;have h2:=(Aj.AJ (X:=fun _=>False) a9).own hr.Bu.marks (fun _ _=>id);rw[hv]at h2;have:=Bh h2 0 (by omega);rw[this,e1];rfl)
 have bl:Hid (∀m U,BZ x=some (m,U)->∀J,Below w0 w0 J->J.cell? (bb,0)=some (.pointer (rb,0))->() 167 #[(bb,0)] J (QY J (Ex (leftOf x) U))):=Hd (fun m U P J a9 p=>by obtain⟨_,r2,e2⟩:=O3 P;exact gO (hr.later a9) p br e2 (bv U (by rw[e2];simp)))
 have c9:Hid ((BZ x=none/\x.starts.length=0)\/(BZ x≠none/\0<x.starts.length)):=Hd (by
  cases P:BZ x with
  | none=>exact .inl ⟨rfl,fJ bt P⟩
  | some al=>obtain⟨_,r2,e2⟩:=O3 (m:=al.1) (st:=al.2) P;exact .inr ⟨by simp,by rw[e2];simp⟩)
 have c6:Hid (∀t∈x.decl,t.s.length<=8192):=Hd bu;have ct:x.decl.length<=100000:=by have:=hr.Bu.ld;omega
 have cl:x.starts.length<=100000:=by have:=hr.Bu.ls;omega
 have cu:x.marks.length<=100000:=by have:=hr.Bu.lm;omega
 have HH:=Hd h;have ca:=Hd bw;have c8:=Hd bp;clear h hr br bt bu bv c1 c2 c3 c4 c7;subst bw;subst bp;clear ca c8;generalize bq:x.decl.length=nd at *;generalize cm:x.starts.length=ns at *;generalize ck:x.marks.length=nk at *;have bk:=Hd bq;clear bq cm ck;go_enter func125,ntmps125
 go_wp2;go_loopw [2,20] (fun U ad wr=>∃(k:Nat) (ak:Option (Nat×Tk)) (n':Nat) (A':Option Addr) (c':Nat) (o:Bd) (bf be:Value) (bi bh:DataW Unit),k<=nd/\ad=.int .i64 k/\U=.slice A' n' c'/\n'<=100000/\Hid ((ak=none/\n'=0)\/(ak=BZ x/\ak≠none/\0<n'))/\Hid (BQ w0 wr bb tm nm rb bf be gv o gs bi bh)/\Hid (Aj (Dw bb tm nm tv nv) w wr/\BK w tv bf/\BK w nv be)/\Hid (BJ (leftOf x) (BZ x) x.decl b.T=BJ (leftOf x) ak (x.decl.drop k) o.T)/\Hid (o.N=b.N/\o.R=b.R)) (fun _ ad _=>nd-(intOf ad).toNat)
 case atStart=>exact⟨0,BZ x,ns,_,_,b,tv,nv,DT,DN,AX _,rfl,rfl,cl,Hd (c9.imp id (fun h=>⟨rfl,h.1,h.2⟩)),HH,Hd ⟨Aj.refl _ _,BK.refl _ _,BK.refl _ _⟩,Hd rfl,Hd ⟨rfl,rfl⟩⟩
 case round=>
  obtain⟨k,ak,n',A',c',o,bf,be,bi,bh,hk,rfl,rfl,cr,HO,HA,HC,HY,b7⟩:=hrel;clear c0 k1 k2 k3 aa;obtain⟨c0,c1,c2,c3,c4,c7,aa⟩:=HA.cells;by_cases b9:k<nd
  ·obtain⟨t,ht⟩:∃t,x.decl[k]?=some t:=⟨_,eG (by rw[bk.out];exact b9)⟩
   obtain⟨g,c,cf,bm⟩:=HL k t ht;obtain⟨e0,e1,e2⟩:=bm wr HA.below;cases cf
   have a1:=c6 t (mG ht);have bo:x.decl.drop k=t::x.decl.drop (k+1):=by obtain⟨cg,e⟩:=sG.1 ht;rw[List.drop_eq_getElem_cons cg,e]
   have ar:Hid (BJ (leftOf x) (BZ x) x.decl b.T=BJ (leftOf x) ak (t::x.decl.drop (k+1)) o.T):=Hd (by rw[HY.out,bo]);clear ht bm bo;have ab:=Hd (Ah.new wr 173 #[t.k,.string (str t.s),t.p]);have a6:=Hd (HA.alloc (.cells #[t.k,.string (str t.s),t.p] 173));have aq:=Hd (HC.1.alloc (.cells #[t.k,.string (str t.s),t.p] 173));have bd:wr.heap.size<(wr.alloc (.cells #[t.k,.string (str t.s),t.p] 173)).heap.size:=by simp
   generalize cn:(wr.alloc (.cells #[t.k,.string (str t.s),t.p] 173))=w1 at *;have ba:=Hd cn;clear c0 c1 c2 c3 c4 c7 aa;obtain⟨c0,c1,c2,c3,c4,c7,aa⟩:=a6.cells;obtain⟨k2,k3⟩:=bz w1 a6.below;have x0:=ab.cell 0;have x1:=ab.cell 1;have x2:=ab.cell 2;simp at x0 x1 x2;rcases HO.out with⟨ho,av⟩|⟨ho,aw,av⟩
   ·subst av
    go_wp2
    go_region
    go_wp2;obtain⟨T,R,A2,a8,ah,b6,b0,af⟩:∃(T:Option (Nat×Tk)) (R:Nat) (A2:Option Addr) (a8:Nat),Value.slice A' 0 c'=.slice A2 R a8/\R<=100000/\Hid ((T=none/\R=0)\/(T=BZ x/\T≠none/\0<R))/\Hid (∀r,Ct o.T t=r->BJ (leftOf x) (BZ x) x.decl b.T=match r with | .error e=>.error e | .ok T'=>BJ (leftOf x) T (x.decl.drop (k+1)) T'):=
     ⟨none,0,A',c',rfl,by omega,Hd (.inl ⟨rfl,rfl⟩),Hd (fun r hr=>by rw[ar.out,ho,BJ,hr];cases r<;>rfl)⟩
    rw[ah];clear ah;have I:=Hd a6.drew;have a4:=Hd (((Aj.refl (fun _=>False) w1).drew).Ap ab id);have a0:=Hd aq.drew;clear c0 c1 c2 c3 c4 c7 aa x0 x1 x2 k2 k3 e0 e1 e2;generalize w1.drew=wz at *;have ae:Hid (∀r,Ct o.T t=r->∀f,r=.error f->Hn b (BJ (leftOf x) (BZ x) x.decl b.T)=.error f):=Hd (fun r h1 f h2=>by rw[af.out _ h1,h2];rfl);clear HA HY ar a6 ab aq ba HO bd;obtain⟨c0,c1,c2,c3,c4,c7,aa⟩:=I.cells;have x0:=a4.cell 0;have x1:=a4.cell 1;have x2:=a4.cell 2;simp at x0 x1 x2;have ai:=Ky I.drew.mt I.pt a1
    have bx:=a4.lt;generalize wr.heap.size=xb at *;by_cases p:t.s∈o.T
    ·have HE:=Hd (ae (.error (8,t.p)) (by unfold Ct;rw[if_pos (by simpa using p)]) (8,t.p) rfl)
     rw[if_pos p]at ai;have b5:o.T.idxOf t.s+1≠0:=by omega
     generalize o.T.idxOf t.s+1=n1 at *;have q2:(0:Int)<(n1:Int):=by
      rcases Nat.eq_zero_or_pos n1 with e|e
      ·exact absurd b5 (by omega)
      ·omega
     clear p a1
     go_region
     go_wp2_with (go_at_call 124;refine(Ep _ _ _).mono ?_;rintro e J ⟨rfl,a9⟩;subst a9)
     refine⟨rfl,_,_,_,_,_,I.drew,a0.drew,?_⟩;rw[HE.out];exact BW.of rfl rfl
    ·rw[if_neg p,show ((0:Nat):Int)=0 from rfl]at ai
     have a7:=Hd (MU I.drew t a1 p);have a5:=OD p;cases j:Ct o.T t with
     | error f=>
      obtain⟨hf,ag⟩:f=(7,t.p)/\120<=o.T.length:=by
       unfold Ct at j;rw[if_neg (by simpa using p)]at j;split at j
       ·rename_i h
        injection j with j;exact⟨j.symm,h⟩
       ·cases j
      subst hf;have b1:=Hd (NS I.drew t ag);have HE:=Hd (ae _ j _ rfl);clear a5 j p a1 a7 ag
      go_region
      go_wp2_with (go_at_call 168;refine b1.mono ?_;intro e w2 i;obtain⟨i,C⟩:=i;have i:e=_:=i;subst i)
      refine⟨rfl,_,_,_,_,_,I.drew.AE (.AJ (X:=fun _=>False) C) (fun _ _=>id),a0.drew.next (.AJ C),?_⟩;rw[HE.out];exact BW.of rfl rfl
     | ok T2=>
      rw[j]at a5;rw[a5]at a7;have b2:=Hd (af _ j);clear a5 j p a1
      go_region
      go_wp2_with (
           go_at_call 168;refine a7.mono ?_;intro e w2 i;obtain⟨C,rfl,an,aj,ay,ax,z1,z2,z3,z4⟩:=i
           have b3:=Hd z1;have b4:Hid (Aj (Dw bb tm nm tv nv) w w2/\BK w tv an/\BK w nv aj):=Hd ⟨a0.drew.trans z2 (fun ad hi=>HC.2.1.MQ HC.2.2 ad hi),HC.2.1.next z3 a0.drew.size,HC.2.2.next z4 a0.drew.size⟩;clear C z1 z2 z3 z4)
      go_roundw
      case rel=>exact⟨k+1,T,R,A2,a8,_,an,aj,ay,ax,by omega,by go_num,rfl,b6,b0,b3,b4,b2,b7⟩
      case measure=>simp[intOf];omega
   ·obtain⟨m,U,P⟩:∃m U,BZ x=some (m,U):=by
     cases P:BZ x with
     | none=>exact absurd (ho.trans P) aw
     | some al=>exact⟨al.1,al.2,rfl⟩
    obtain⟨g2,cc,ch,cq,bn⟩:=HM m U P;have m0:=bn w1 a6.below;cases ch
    have HU:=Hd (bl m U P w1.drew a6.drew.below a6.drew.cells.1);have cj:(0:Int)<(n':Int):=by omega
    have cp:(0:Int)<(nk:Int):=by omega
    have b8:=Hd P;have az:=Hd ho;clear P ho aw bn;by_cases au:m<t.p
    ·have q1:(m:Int)<(t.p:Int):=by omega
     cases hs:Ex (leftOf x) U with
     | error f=>
      rw[hs]at HU;have HE:Hid (Hn b (BJ (leftOf x) (BZ x) x.decl b.T)=.error f):=Hd (by rw[ar.out,az.out,b8.out,BJ,if_pos au,hs];rfl);clear hs au;go_wp2
      go_region
      go_wp2_with (go_at_call 167;refine HU.mono ?_;intro e w2 i;obtain⟨C,i⟩:=i;have i:e=_:=i;subst i)
      refine⟨rfl,_,_,_,_,_,a6.drew.AE (.AJ (X:=fun _=>False) C) (fun _ _=>id),aq.drew.next (.AJ C),?_⟩;rw[HE.out];exact BW.of rfl rfl
     | ok uu=>
      rw[hs]at HU;have cb:Hid (∀r,Ct o.T t=r->BJ (leftOf x) (BZ x) x.decl b.T=match r with | .error e=>.error e | .ok T'=>BJ (leftOf x) none (x.decl.drop (k+1)) T'):=Hd (fun r hr=>by rw[ar.out,az.out,b8.out,BJ,if_pos au,hs];simp only;rw[hr];cases r<;>rfl);clear hs au;go_wp2
      go_region
      go_wp2_with (go_at_call 167;refine HU.mono ?_;intro e wz i;obtain⟨C,rfl⟩:=i;have ao:=Hd C;clear C)
      obtain⟨T,R,A2,a8,ah,b6,b0,af⟩:∃(T:Option (Nat×Tk)) (R:Nat) (A2:Option Addr) (a8:Nat),Value.slice none 0 0=.slice A2 R a8/\R<=100000/\Hid ((T=none/\R=0)\/(T=BZ x/\T≠none/\0<R))/\Hid (∀r,Ct o.T t=r->BJ (leftOf x) (BZ x) x.decl b.T=match r with | .error e=>.error e | .ok T'=>BJ (leftOf x) T (x.decl.drop (k+1)) T'):=
       ⟨none,0,none,0,rfl,by omega,Hd (.inl ⟨rfl,rfl⟩),cb⟩
      rw[ah];clear ah;have I:=Hd (a6.drew.AE (.AJ (X:=fun _=>False) ao) (fun _ _=>id));have a4:=Hd (((Aj.refl (fun _=>False) w1).drew.next (.AJ ao)).Ap ab id);have a0:=Hd (aq.drew.next (.AJ ao));clear c0 c1 c2 c3 c4 c7 aa x0 x1 x2 k2 k3 e0 e1 e2 HU ao;have ae:Hid (∀r,Ct o.T t=r->∀f,r=.error f->Hn b (BJ (leftOf x) (BZ x) x.decl b.T)=.error f):=Hd (fun r h1 f h2=>by rw[af.out _ h1,h2];rfl);clear HA HY ar a6 ab aq ba HO bd;obtain⟨c0,c1,c2,c3,c4,c7,aa⟩:=I.cells;have x0:=a4.cell 0;have x1:=a4.cell 1
      have x2:=a4.cell 2;simp at x0 x1 x2;have ai:=Ky I.drew.mt I.pt a1;have bx:=a4.lt;generalize wr.heap.size=xb at *;by_cases p:t.s∈o.T
      ·have HE:=Hd (ae (.error (8,t.p)) (by unfold Ct;rw[if_pos (by simpa using p)]) (8,t.p) rfl)
       rw[if_pos p]at ai;have b5:o.T.idxOf t.s+1≠0:=by omega
       generalize o.T.idxOf t.s+1=n1 at *;have q2:(0:Int)<(n1:Int):=by
        rcases Nat.eq_zero_or_pos n1 with e|e
        ·exact absurd b5 (by omega)
        ·omega
       clear p a1
       go_region
       go_wp2_with (go_at_call 124;refine(Ep _ _ _).mono ?_;rintro e J ⟨rfl,a9⟩;subst a9)
       refine⟨rfl,_,_,_,_,_,I.drew,a0.drew,?_⟩;rw[HE.out];exact BW.of rfl rfl
      ·rw[if_neg p,show ((0:Nat):Int)=0 from rfl]at ai
       have a7:=Hd (MU I.drew t a1 p);have a5:=OD p;cases j:Ct o.T t with
       | error f=>
        obtain⟨hf,ag⟩:f=(7,t.p)/\120<=o.T.length:=by
         unfold Ct at j;rw[if_neg (by simpa using p)]at j;split at j
         ·rename_i h
          injection j with j;exact⟨j.symm,h⟩
         ·cases j
        subst hf;have b1:=Hd (NS I.drew t ag);have HE:=Hd (ae _ j _ rfl);clear a5 j p a1 a7 ag
        go_region
        go_wp2_with (go_at_call 168;refine b1.mono ?_;intro e w2 i;obtain⟨i,C⟩:=i;have i:e=_:=i;subst i)
        refine⟨rfl,_,_,_,_,_,I.drew.AE (.AJ (X:=fun _=>False) C) (fun _ _=>id),a0.drew.next (.AJ C),?_⟩;rw[HE.out];exact BW.of rfl rfl
       | ok T2=>
        rw[j]at a5;rw[a5]at a7;have b2:=Hd (af _ j);clear a5 j p a1
        go_region
        go_wp2_with (
             go_at_call 168;refine a7.mono ?_;intro e w2 i;obtain⟨C,rfl,an,aj,ay,ax,z1,z2,z3,z4⟩:=i
             have b3:=Hd z1;have b4:Hid (Aj (Dw bb tm nm tv nv) w w2/\BK w tv an/\BK w nv aj):=Hd ⟨a0.drew.trans z2 (fun ad hi=>HC.2.1.MQ HC.2.2 ad hi),HC.2.1.next z3 a0.drew.size,HC.2.2.next z4 a0.drew.size⟩;clear C z1 z2 z3 z4)
        go_roundw
        case rel=>exact⟨k+1,T,R,A2,a8,_,an,aj,ay,ax,by omega,by go_num,rfl,b6,b0,b3,b4,b2,b7⟩
        case measure=>simp[intOf];omega
    ·have q1:¬(m:Int)<(t.p:Int):=by omega
     go_wp2
     go_region
     go_wp2;obtain⟨T,R,A2,a8,ah,b6,b0,af⟩:∃(T:Option (Nat×Tk)) (R:Nat) (A2:Option Addr) (a8:Nat),Value.slice A' n' c'=.slice A2 R a8/\R<=100000/\Hid ((T=none/\R=0)\/(T=BZ x/\T≠none/\0<R))/\Hid (∀r,Ct o.T t=r->BJ (leftOf x) (BZ x) x.decl b.T=match r with | .error e=>.error e | .ok T'=>BJ (leftOf x) T (x.decl.drop (k+1)) T'):=
      ⟨ak,n',A',c',rfl,by omega,Hd (.inr ⟨az,by rw[az.out,b8.out];simp,av⟩),Hd (fun r hr=>by rw[ar.out,az.out,b8.out,BJ,if_neg au,hr];cases r<;>rfl)⟩
     rw[ah];clear ah au;have I:=Hd a6.drew;have a4:=Hd (((Aj.refl (fun _=>False) w1).drew).Ap ab id);have a0:=Hd aq.drew;clear c0 c1 c2 c3 c4 c7 aa x0 x1 x2 k2 k3 e0 e1 e2 HU;generalize w1.drew=wz at *;have ae:Hid (∀r,Ct o.T t=r->∀f,r=.error f->Hn b (BJ (leftOf x) (BZ x) x.decl b.T)=.error f):=Hd (fun r h1 f h2=>by rw[af.out _ h1,h2];rfl);clear HA HY ar a6 ab aq ba HO bd;obtain⟨c0,c1,c2,c3,c4,c7,aa⟩:=I.cells;have x0:=a4.cell 0;have x1:=a4.cell 1;have x2:=a4.cell 2;simp at x0 x1 x2;have ai:=Ky I.drew.mt I.pt a1
     have bx:=a4.lt;generalize wr.heap.size=xb at *;by_cases p:t.s∈o.T
     ·have HE:=Hd (ae (.error (8,t.p)) (by unfold Ct;rw[if_pos (by simpa using p)]) (8,t.p) rfl)
      rw[if_pos p]at ai;have b5:o.T.idxOf t.s+1≠0:=by omega
      generalize o.T.idxOf t.s+1=n1 at *;have q2:(0:Int)<(n1:Int):=by
       rcases Nat.eq_zero_or_pos n1 with e|e
       ·exact absurd b5 (by omega)
       ·omega
      clear p a1
      go_region
      go_wp2_with (go_at_call 124;refine(Ep _ _ _).mono ?_;rintro e J ⟨rfl,a9⟩;subst a9)
      refine⟨rfl,_,_,_,_,_,I.drew,a0.drew,?_⟩;rw[HE.out];exact BW.of rfl rfl
     ·rw[if_neg p,show ((0:Nat):Int)=0 from rfl]at ai
      have a7:=Hd (MU I.drew t a1 p);have a5:=OD p;cases j:Ct o.T t with
      | error f=>
       obtain⟨hf,ag⟩:f=(7,t.p)/\120<=o.T.length:=by
        unfold Ct at j;rw[if_neg (by simpa using p)]at j;split at j
        ·rename_i h
         injection j with j;exact⟨j.symm,h⟩
        ·cases j
       subst hf;have b1:=Hd (NS I.drew t ag);have HE:=Hd (ae _ j _ rfl);clear a5 j p a1 a7 ag
       go_region
       go_wp2_with (go_at_call 168;refine b1.mono ?_;intro e w2 i;obtain⟨i,C⟩:=i;have i:e=_:=i;subst i)
       refine⟨rfl,_,_,_,_,_,I.drew.AE (.AJ (X:=fun _=>False) C) (fun _ _=>id),a0.drew.next (.AJ C),?_⟩;rw[HE.out];exact BW.of rfl rfl
      | ok T2=>
       rw[j]at a5;rw[a5]at a7;have b2:=Hd (af _ j);clear a5 j p a1
       go_region
       go_wp2_with (
            go_at_call 168;refine a7.mono ?_;intro e w2 i;obtain⟨C,rfl,an,aj,ay,ax,z1,z2,z3,z4⟩:=i
            have b3:=Hd z1;have b4:Hid (Aj (Dw bb tm nm tv nv) w w2/\BK w tv an/\BK w nv aj):=Hd ⟨a0.drew.trans z2 (fun ad hi=>HC.2.1.MQ HC.2.2 ad hi),HC.2.1.next z3 a0.drew.size,HC.2.2.next z4 a0.drew.size⟩;clear C z1 z2 z3 z4)
       go_roundw
       case rel=>exact⟨k+1,T,R,A2,a8,_,an,aj,ay,ax,by omega,by go_num,rfl,b6,b0,b3,b4,b2,b7⟩
       case measure=>simp[intOf];omega
  ·obtain rfl:k=nd:=by omega
   have bc:Hid (BJ (leftOf x) (BZ x) x.decl b.T=BJ (leftOf x) ak [] o.T):=Hd (by have h1:=HY.out;rw[List.drop_of_length_le (by have:=bk.out;omega)]at h1;exact h1)
   have bj:Hid ({b with T:=o.T}=o):=Hd (by obtain⟨h1,h2⟩:=b7.out;cases o;simp at h1 h2;rw[<-h1,<-h2]);rcases HO.out with⟨ho,av⟩|⟨ho,aw,av⟩
   ·subst av
    have HE:Hid (Hn b (BJ (leftOf x) (BZ x) x.decl b.T)=.ok o):=Hd (by rw[bc.out,ho];exact congrArg Except.ok bj);clear ho;go_wp2
    go_end0
    refine⟨_,_,_,_,_,HA,HC.1,?_⟩;rw[HE.out];exact⟨rfl,rfl⟩
   ·obtain⟨m,U,P⟩:∃m U,BZ x=some (m,U):=by
     cases P:BZ x with
     | none=>exact absurd (ho.trans P) aw
     | some al=>exact⟨al.1,al.2,rfl⟩
    have HU:=Hd (bl m U P wr HA.below HA.cells.1);have cj:(0:Int)<(n':Int):=by omega
    cases hs:Ex (leftOf x) U with
    | error f=>
     rw[hs]at HU;have HE:Hid (Hn b (BJ (leftOf x) (BZ x) x.decl b.T)=.error f):=Hd (by rw[bc.out,ho,P,BJ,hs];rfl);clear hs ho aw P;go_wp2_with (go_at_call 167;refine HU.mono ?_;intro e w2 i;obtain⟨C,i⟩:=i;have i:e=_:=i;subst i)
     refine⟨rfl,_,_,_,_,_,HA.AE (.AJ (X:=fun _=>False) C) (fun _ _=>id),HC.1.next (.AJ C),?_⟩;rw[HE.out];exact BW.of rfl rfl
    | ok uu=>
     rw[hs]at HU;have HE:Hid (Hn b (BJ (leftOf x) (BZ x) x.decl b.T)=.ok o):=Hd (by rw[bc.out,ho,P,BJ,hs];exact congrArg Except.ok bj);clear hs ho aw P;go_wp2_with (go_at_call 167;refine HU.mono ?_;intro e w2 i;obtain⟨C,rfl⟩:=i;have ao:=Hd C;clear C)
     go_end0
     have I:=HA.AE (.AJ (X:=fun _=>False) ao) (fun _ _=>id);refine⟨_,_,_,_,_,I,HC.1.next (.AJ ao),?_⟩;rw[HE.out];exact⟨rfl,rfl⟩
end
section
open Go.RowKit Go.Proofs.Tryz Go.Maps
def Y8(w:World):(Instr.typeAssert .nilIface 20 136 true).run Tryz.prog w=.ok (.tuple #[.agg #[.int .i64 0,.int .i64 0],.bool false]) w:=by kernel_rfl
def Uh(e p:Int)(w:World):(Instr.typeAssert (.iface 136 (.agg #[e,p])) 20 136 true).run Tryz.prog w=.ok (.tuple #[.agg #[e,p],.bool true]) w:=by kernel_rfl
def kV(w:World):(binOp .neq 20 .nilIface .nilIface).run Tryz.prog w=.ok (.bool false) w:=by kernel_rfl
def PC(w:World):(binOp .eql 20 .nilIface .nilIface).run Tryz.prog w=.ok (.bool true) w:=by kernel_rfl
def VK(v:Value)(w:World):(binOp .neq 20 (.iface 136 v) .nilIface).run Tryz.prog w=.ok (.bool true) w:=by kernel_rfl
def SY(v:Value)(w:World):(binOp .eql 20 (.iface 136 v) .nilIface).run Tryz.prog w=.ok (.bool false) w:=by kernel_rfl
def RF{fn:Func}{i:Frame}{cs:List Frame}{R:Ending->FrameMode->World->Prop}{w:World}(j:fn.results=#[])(l:i.mode=u)(h:R (.returned (.tuple #[])) u w):bodyPostS P fn i cs R .normal {tmps:=tmps,defers:=[]} (i::cs) w:=
 ⟨rfl,u,by cases i;simp_all,_,results_none j _ _ _,h⟩
def V6{fn:Func}{i:Frame}{cs:List Frame}{R:Ending->FrameMode->World->Prop}{w:World}{j:List PanicEntry}(l:i.mode=u)(h:R (.panicked j) u w):bodyPostS P fn i cs R (.panic j) {tmps:=tmps,defers:=[]} (i::cs) w:=
 ⟨rfl,u,by cases i;simp_all,h⟩
def OF{fn:Func}{j:Frame}{cs:List Frame}{R:Ending->FrameMode->World->Prop}{w:World}(h:R (.panicked i) u w):bodyPostS P fn j cs R (.panic i) {tmps:=tmps,defers:=[]} ({j with mode:=u}::cs) w:=
 ⟨rfl,u,rfl,h⟩
def WH{w:World}{o J:Nat}(T:w.cell? (o,0)=some (.pointer (J,0)))(hn:n<=100000)
  (C:∀w',Below w w w'->() 123 #[(J,0)] w' fun e a3=>e=.returned n/\a3=w') :
  CallsD Tryz.prog 122 #[(o,0)] .returning w fun e u' w'=>u'=.returning/\Below w w w'/\e=if n<=8192 then .panicked [{v:=.iface 136 (.agg #[.int .i64 8,n]),recovered:=false}] else .returned (.tuple #[]):=by
 have a4:o<w.heap.size:=World.block_lt_of_cell? w _ T;have a0:=Y8;have a1:=kV;have a2:=PC;have t:=Hd (AG w (.cells #[.int .i64 0,.int .i64 0] 136));have I:=Hd (C _ (AG w (.cells #[.int .i64 0,.int .i64 0] 136)));clear C;by_cases j:n<=8192
 ·have U:(n:Int)<=8192:=by omega
  rw[if_pos j];clear j;refine callsD_of_wpS func122 rfl fun R P i=>?_
  simp only[ntmps122,List.size_toArray,List.length_cons,List.length_nil,Nat.reduceAdd,Nat.reduceSub,Array.replicate_succ,Array.replicate_zero,List.push_toArray,List.append_toArray,List.nil_append,List.cons_append];apply wpS_seq;apply wpS_region;simp[wpOpsS,go_sem,recoverD,i,Exit.thenS];refine wpS_of_wp ?_;have l:=Hd i;clear i;go_wp2_with (first
   | (go_at_call 123;refine I.mono ?_;rintro e w' ⟨rfl,rfl⟩)
   | (go_at_call 124;refine(Ep _ _ _).mono ?_;rintro e w' ⟨rfl,p⟩;subst p))
  exact V6 l ⟨rfl,t,rfl⟩
 ·have U:¬(n:Int)<=8192:=by omega
  rw[if_neg j];clear j;refine callsD_of_wpS func122 rfl fun R P i=>?_
  simp only[ntmps122,List.size_toArray,List.length_cons,List.length_nil,Nat.reduceAdd,Nat.reduceSub,Array.replicate_succ,Array.replicate_zero,List.push_toArray,List.append_toArray,List.nil_append,List.cons_append];apply wpS_seq;apply wpS_region;simp[wpOpsS,go_sem,recoverD,i,Exit.thenS];refine wpS_of_wp ?_;have l:=Hd i;clear i;go_wp2_with (first
   | (go_at_call 123;refine I.mono ?_;rintro e w' ⟨rfl,rfl⟩)
   | (go_at_call 124;refine(Ep _ _ _).mono ?_;rintro e w' ⟨rfl,p⟩;subst p))
  exact RF rfl l ⟨rfl,t,rfl⟩
def Yn{w:World}{I R p:Nat}{k:Int}{a3:List PanicEntry}(hc:w.cell? (I,0)=some (.pointer (R,0)))(hn:n<=100000)
  (J:∀w',Below w w w'->() 123 #[(R,0)] w' fun e a4=>e=.returned n/\a4=w') :
  CallsD Tryz.prog 122 #[(I,0)] (.panicking ({v:=.iface 136 (.agg #[k,p]),recovered:=false}::a3)) w fun e u' w'=>u'=.panicking ({v:=.iface 136 (.agg #[k,p]),recovered:=true}::a3)/\Below w w w' /\
   e=if n<=8192/\n<p then .panicked [{v:=.iface 136 (.agg #[.int .i64 8,n]),recovered:=false}] else .panicked [{v:=.iface 136 (.agg #[k,p]),recovered:=false}]:=by
 have a5:I<w.heap.size:=World.block_lt_of_cell? w _ hc;have a0:=Uh;have a1:=VK;have a2:=SY;have a6:∀(x:Bool) (w:World),(Op.unary .not (.bool x)).run Tryz.prog w=.ok (.bool (!x)) w:=fun _ _=>rfl
 have t:=Hd (AG w (.cells #[k,p] 136));have C:=Hd (J _ (AG w (.cells #[k,p] 136)));clear J;by_cases j:n<=8192
 ·have q1:(n:Int)<=8192:=by omega
  by_cases o:n<p
  ·have q2:(n:Int)<(p:Int):=by omega
   rw[if_pos ⟨j,o⟩];clear j o;refine callsD_of_wpS func122 rfl fun U T i=>?_
   simp only[ntmps122,List.size_toArray,List.length_cons,List.length_nil,Nat.reduceAdd,Nat.reduceSub,Array.replicate_succ,Array.replicate_zero,List.push_toArray,List.append_toArray,List.nil_append,List.cons_append];apply wpS_seq;apply wpS_region;simp[wpOpsS,go_sem,recoverD,i,Exit.thenS];refine wpS_of_wp ?_;have P:=Hd i;clear i;go_wp2_with (first
    | (go_at_call 123;refine C.mono ?_;rintro e w' ⟨rfl,rfl⟩)
    | (go_at_call 124;refine(Ep _ _ _).mono ?_;rintro e w' ⟨rfl,l⟩;subst l))
   exact OF ⟨rfl,t,rfl⟩
  ·have q2:¬(n:Int)<(p:Int):=by omega
   rw[if_neg (fun h=>o h.2)];clear j o;refine callsD_of_wpS func122 rfl fun U T i=>?_
   simp only[ntmps122,List.size_toArray,List.length_cons,List.length_nil,Nat.reduceAdd,Nat.reduceSub,Array.replicate_succ,Array.replicate_zero,List.push_toArray,List.append_toArray,List.nil_append,List.cons_append];apply wpS_seq;apply wpS_region;simp[wpOpsS,go_sem,recoverD,i,Exit.thenS];refine wpS_of_wp ?_;have P:=Hd i;clear i;go_wp2_with (first
    | (go_at_call 123;refine C.mono ?_;rintro e w' ⟨rfl,rfl⟩)
    | (go_at_call 124;refine(Ep _ _ _).mono ?_;rintro e w' ⟨rfl,l⟩;subst l))
   exact OF ⟨rfl,t,rfl⟩
 ·have q1:¬(n:Int)<=8192:=by omega
  rw[if_neg (fun h=>j h.1)];clear j;refine callsD_of_wpS func122 rfl fun U T i=>?_
  simp only[ntmps122,List.size_toArray,List.length_cons,List.length_nil,Nat.reduceAdd,Nat.reduceSub,Array.replicate_succ,Array.replicate_zero,List.push_toArray,List.append_toArray,List.nil_append,List.cons_append];apply wpS_seq;apply wpS_region;simp[wpOpsS,go_sem,recoverD,i,Exit.thenS];refine wpS_of_wp ?_;have P:=Hd i;clear i;go_wp2_with (first
   | (go_at_call 123;refine C.mono ?_;rintro e w' ⟨rfl,rfl⟩)
   | (go_at_call 124;refine(Ep _ _ _).mono ?_;rintro e w' ⟨rfl,l⟩;subst l))
  exact OF ⟨rfl,t,rfl⟩
def Qx(f:Bm)(e:Ending):Prop:=∃i:List PanicEntry,(i.all fun p=>!p.goexit)=true/\e=.panicked ({v:=.iface 136 (.agg #[f.1,f.2]),recovered:=false}::i)
def iT(i w:World)(j o l rb:Nat)(tv nv I:Value)(C:List BI)(r:Except Bm Bd)(e:Ending)(w':World):Prop:=
 Below i i w'/\match r with
 | .ok b=>e=.returned (.tuple #[])/\∃P J t p,BQ i w' j o l rb P J I b C t p/\Aj (Dw j o l tv nv) w w'
 | .error f=>Qx f e
def ZR{w0 w:World}{i U T:Nat}{tv nv gv:Value}{b:Bd}{gs:List BI}(h:BQ w0 w i U T rb tv nv gv b gs DT DN)(hr:DS w0 B rb mb tb l x dv kv sv rv rs D)(a4:rs.map Br.r=x.rules)
  (a5:x.marks.length=x.starts.length) (a6:∀t∈x.decl,t.s.length<=8192) (a8:∀t∈x.starts,t.s.length<=8192) (hT:b.T=[]) (a7:DI x.marks<=100000) :
  () 89 #[(i,0)] w (iT w0 w i U T rb tv nv gv gs (Hn b (Gn x))):=by
 have a2:=Hd (h.alloc (.cells #[(i,0)] 143));have a0:=Hd (Ah.new w 143 #[(i,0)]);have R:=Hd (aT a2 hr a4 a5 a6 a8);have ae:=Hd ((Aj.refl (Dw i U T tv nv) w).alloc (.cells #[(i,0)] 143));have HR:=Hd hr;have a3:=Hd a7;rw[hT]at R;have ai:∀(fn:Fn) (first cap:Array Value) (w:World),(Instr.makeFunc fn first cap).run Tryz.prog w=.ok (.func fn first cap) w:=fun _ _ _ _=>rfl
 have aj:w.heap.size<(w.alloc (.cells #[(i,0)] 143)).heap.size:=by simp
 have p0:=a0.cell 0;simp at p0;have HS:Hid (∀p b' aa a9 DT DN,BQ w0 p i U T rb aa a9 gv b' gs DT DN->Aj (Dw i U T tv nv) (w.alloc (.cells #[(i,0)] 143)) p->p.cell? (w,0)=some (.pointer (i,0))/\∀w',Below p p w'->() 123 #[(i,0)] w' fun e a1=>e=.returned (.int .i64 (DI x.marks))/\a1=w'):=Hd (fun p b' aa a9 DT DN ha hc=>by refine⟨(hc.Ap a0 (KQ a2 a0 (by decide) (by decide))).cell 0,fun w' I=>?_⟩;have h2:=ha.AE (.AJ (X:=fun _=>False) I) (fun _ _=>id);exact kN (HR.later h2.below) h2.cells.1)
 clear h hr a5 a6 a8 hT a7 a4;cases P:BJ (leftOf x) (BZ x) x.decl [] with
 | error f=>
  rw[P]at R;have j:Hid (Hn b (Gn x)=.error (if DI x.marks<=8192/\DI x.marks<f.2 then(8,DI x.marks) else f)):=Hd (by unfold Gn;rw[P];simp only;split<;>rfl);clear P
  go_enter_defers func89,ntmps89
  go_wp2_with (go_at_call 125;refine R.mono ?_;intro e p C;obtain⟨b2,ah,ag,ad,ab,z1,z2,C⟩:=C;have C:e=_:=C;subst C)
  obtain⟨y1,y2⟩:=HS _ _ _ _ _ _ z1 z2;refine leaves_cons (f:=122) (args:=#[(w,0)]) (by simp) (by simp[go_sem]) ?_;refine(Yn y1 a3 y2).mono ?_;rintro e u' a1 ⟨rfl,I,he⟩;subst he;have J:=(z1.AE (.AJ (X:=fun _=>False) I) (fun _ _=>id)).below;by_cases o:DI x.marks<=8192/\DI x.marks<f.2
  ·rw[if_pos o]
   rw[if_pos o]at j;simp only[raised,Leaves];refine⟨J,?_⟩;rw[j.out];exact⟨_,rfl,rfl⟩
  ·rw[if_neg o]
   rw[if_neg o]at j;simp only[raised,Leaves];refine⟨J,?_⟩;rw[j.out];exact⟨_,rfl,rfl⟩
 | ok af=>
  rw[P]at R;have j:Hid (Hn b (Gn x)=if DI x.marks<=8192 then .error (8,DI x.marks) else .ok {b with T:=af}):=Hd (by unfold Gn;rw[P];simp only;split<;>rfl);clear P
  go_enter_defers func89,ntmps89
  go_wp2_with (go_at_call 125;refine R.mono ?_;intro e p C;obtain⟨b2,ah,ag,ad,ab,z1,z2,rfl,rfl⟩:=C)
  obtain⟨y1,y2⟩:=HS _ _ _ _ _ _ z1 z2;refine leaves_cons (f:=122) (args:=#[(w,0)]) (by simp) (by simp[go_sem]) ?_;refine(WH y1 a3 y2).mono ?_;rintro e u' a1 ⟨rfl,I,he⟩;subst he;have J:=(z1.AE (.AJ (X:=fun _=>False) I) (fun _ _=>id))
  by_cases o:DI x.marks<=8192
  ·rw[if_pos o]
   rw[if_pos o]at j;simp only[raised,Leaves];refine⟨J.below,?_⟩;rw[j.out];exact⟨_,rfl,rfl⟩
  ·rw[if_neg o]
   rw[if_neg o]at j;simp only[settle,Leaves];refine⟨_,results_none rfl _ _ _,J.below,?_⟩;rw[j.out];exact⟨rfl,_,_,_,_,J,(ae.next z2).next (.AJ I)⟩
end
section
open Go.RowKit Go.Proofs.Tryz Go.Maps
structure BC where
 left:Nat
 v:Value
 r:List Nat
def BC.cells(q:BC):List Value:=[.int .i64 q.left,q.v]
def BC.g(q:BC):Nat×List Nat:=(q.left,q.r)
def BC.MB(q:BC):q.cells.length=2:=rfl
def WK:El Tryz.prog 56 119 2 32:=El.of (z:=.agg #[.int .i64 0,.slice none 0 0]) underlying56 (by kernel_rfl) rfl (by decide)
structure Ea(w0 w:World)(bb:Nat)(p1 p2 p3 tv nv gv Rv:Value)(b:Bd)(gs:List BI)(R:List BC)(st:Int):Prop where
 below:Below w0 w0 w
 Ap:Ah w bb 146 #[p1,p2,p3,tv,nv,Rv,st,gv]
 ft:w.ownsRow w0 9 1 tv b.T.length (b.T.map Nv)
 fn:w.ownsRow w0 9 1 nv b.N.length (b.N.map Nv)
 fg:w.ownsRow w0 55 1 gv gs.length (gs.map BI.v)
 rows:∀q∈gs,w.ownsRow w0 9 1 q.v q.l.length (q.l.map Nv)
 fR:w.ownsRow w0 119 2 Rv R.length (R.flatMap BC.cells)
 IV:∀q∈R,w.ownsRow w0 3 1 q.v q.r.length (q.r.map Mark)
 names:gs.map BI.l=b.R
 b0:w0.heap.size<=bb
 lt:b.T.length<=120
 ln:b.N.length<=120
 lr:b.R.length<=300
def Ea.of{w0 w:World}{bb j i:Nat}{tv nv gv:Value}{b:Bd}{gs:List BI}{o l:DataW Unit}(h:BQ w0 w bb j i rb tv nv gv b gs o l):Ea w0 w bb (rb,0) (.map (some j)) (.map (some i)) tv nv gv (.slice none 0 0) b gs [] 0:=
 ⟨h.below,h.Ap,h.ft,h.fn,h.fg,h.rows,World.ownsRow_nil _ _ _ _,(by simp),h.names,h.b0.1,h.lt,h.ln,h.lr⟩
namespace Ea
variable {w0 w:World} {bb:Nat} {p1 p2 p3 tv nv gv Rv:Value} {b:Bd} {gs:List BI} {R:List BC} {st:Int}
def later(h:Ea w0 w bb p1 p2 p3 tv nv gv Rv b gs R st)(l:Below w w w'):Ea w0 w' bb p1 p2 p3 tv nv gv Rv b gs R st:=by have i:Aj (fun _=>False) w w':=.AJ l;exact⟨h.below.trans (l.mono h.below.size),i.Ap h.Ap id,i.own h.ft (fun _ _=>id),i.own h.fn (fun _ _=>id),i.own h.fg (fun _ _=>id),fun q j=>i.own (h.rows q j) (fun _ _=>id),i.own h.fR (fun _ _=>id),fun q j=>i.own (h.IV q j) (fun _ _=>id),h.names,h.b0,h.lt,h.ln,h.lr⟩
def drew(h:Ea w0 w bb p1 p2 p3 tv nv gv Rv b gs R st):Ea w0 w.drew bb p1 p2 p3 tv nv gv Rv b gs R st:=h.later (IP w)
def cells(h:Ea w0 w bb p1 p2 p3 tv nv gv Rv b gs R st):w.cell? (bb,0)=some p1/\w.cell? (bb,3)=some tv/\w.cell? (bb,4)=some nv/\w.cell? (bb,5)=some Rv/\w.cell? (bb,6)=some (.int .i64 st)/\w.cell? (bb,7)=some gv/\bb<w.heap.size:=
 ⟨h.Ap.cell 0,h.Ap.cell 3,h.Ap.cell 4,h.Ap.cell 5,h.Ap.cell 6,h.Ap.cell 7,h.Ap.lt⟩
def find(h:Ea w0 w bb p1 p2 p3 tv nv gv Rv b gs R st)(s:AO):() 92 #[.agg #[tv,nv,Rv,st],.string (str s)] w fun e w'=>e=.returned (.int .i64 (B5 b.T b.N s))/\Below w w w':=
 Vb h.ft h.fn h.lt h.ln s
def app(h:Ea w0 w bb p1 p2 p3 tv nv gv Rv b gs R st){i:Option Addr}{q:BC}(J:w.ownsRow w0 3 1 q.v q.r.length (q.r.map Mark))
  (ho:w2.ownsRow w0 119 2 (.slice i (R.length+1) c2) (R.length+1) (R.flatMap BC.cells++q.cells))
  (hg:(w.alloc o).grownBy w2 Rv.ownBlock/\((Value.slice i (R.length+1) c2).ownBlock=Rv.ownBlock\/(Value.slice i (R.length+1) c2).ownBlock=some (w.alloc o).heap.size)) :
  Ea w0 (w2.setCell (bb,5) (.slice i (R.length+1) c2)) bb p1 p2 p3 tv nv gv (.slice i (R.length+1) c2) b gs (R++[q]) st/\Aj (fun k=>Rv.ownBlock=some k\/k=bb) w (w2.setCell (bb,5) (.slice i (R.length+1) c2)):=by
 have hX:Aj (fun k=>Rv.ownBlock=some k) w w2:=((Aj.refl _ w).alloc o).next (.CE hg.1);have C:Aj (fun k=>Rv.ownBlock=some k\/k=bb) w (w2.setCell (bb,5) (.slice i (R.length+1) c2)):=(hX.mono (fun a1 hi=>.inl hi)).set (p:=⟨bb,5,none⟩) (.inr (.inr rfl)) _;have U:¬Rv.ownBlock=some bb:=Cz h.fR h.Ap (by decide);have a0:=h.Ap.lt;have j:∀{e:TypeId} {n:Nat} {v:Value} {T:List Value},w.ownsRow w0 e 1 v n T->e≠119->e≠146->(w2.setCell (bb,5) (.slice i (R.length+1) c2)).ownsRow w0 e 1 v n T:=by
  intro e n v T P h1 h2;refine C.own P ?_;rintro k I (p|rfl)
  ·exact Gf P h.fR h1 k I p
  ·exact Cz P h.Ap h2 I
 refine⟨⟨?_,by simpa using(hX.Ap h.Ap U).Be 5 (.slice i (R.length+1) c2),j h.ft (by decide) (by decide),j h.fn (by decide) (by decide),j h.fg (by decide) (by decide),fun q J=>j (h.rows q J) (by decide) (by decide),?_,?_,h.names,h.b0,h.lt,h.ln,h.lr⟩,C⟩
 ·refine h.below.trans (C.below h.below.size ?_)
  rintro k I (p|p)
  ·have:=(B4 h.fR k p).1;omega
  ·have:=h.b0;omega
 ·rw[show (R++[q]).length=R.length+1 by simp,List.flatMap_append]
  refine EC (by simpa using ho) ?_ _;intro e;rcases hg.2 with t|t
  ·exact U (t▸e)
  ·rw[t]at e;injection e with e;simp at e;omega
 ·intro u l
  rcases mA.1 l with l|l
  ·exact j (h.IV u l) (by decide) (by decide)
  ·rw[mS.1 l];exact j J (by decide) (by decide)
def start(h:Ea w0 w bb p1 p2 p3 tv nv gv Rv b gs R st)(s:Int):Ea w0 (w.setCell (bb,6) s) bb p1 p2 p3 tv nv gv Rv b gs R s/\Aj (fun k=>k=bb) w (w.setCell (bb,6) s):=by
 have j:Aj (fun k=>k=bb) w (w.setCell (bb,6) s):=(Aj.refl (fun k=>k=bb) w).set (p:=⟨bb,6,none⟩) (.inr rfl) _;have i:∀{e:TypeId} {o n:Nat} {v:Value} {p:List Value},w.ownsRow w0 e o v n p->e≠146->(w.setCell (bb,6) s).ownsRow w0 e o v n p:=by intro e o n v p C I;refine j.own C ?_;rintro k t rfl;exact Cz C h.Ap I t
 refine⟨⟨?_,by simpa using h.Ap.Be 6 s,i h.ft (by decide),i h.fn (by decide),i h.fg (by decide),fun q l=>i (h.rows q l) (by decide),i h.fR (by decide),fun q l=>i (h.IV q l) (by decide),h.names,h.b0,h.lt,h.ln,h.lr⟩,j⟩;refine h.below.trans (j.below h.below.size ?_);rintro k t J;have:=h.b0;omega
end Ea
structure Jl(wi:World)(xb left:Nat)(xv:Value)(done:List Nat)(wr:World):Prop where
 below:Below wi wi wr
 box:Ah wr xb 119 #[left,xv]
 own:wr.ownsRow wi 3 1 xv done.length (done.map Mark)
 hx:wi.heap.size<=xb
namespace Jl
variable {wi wr:World} {xb left:Nat} {xv:Value} {done:List Nat}
def later(h:Jl wi xb left xv done wr)(i:Below wr wr w'):Jl wi xb left xv done w':=by have j:Aj (fun _=>False) wr w':=.AJ i;exact⟨h.below.trans (i.mono h.below.size),j.Ap h.box id,j.own h.own (fun _ _=>id),h.hx⟩
def app(h:Jl wi xb left xv done wr){i:Option Addr}
  (P:w2.ownsRow wi 3 1 (.slice i (done.length+1) c2) (done.length+1) (done.map Mark++[Mark s]))
  (t:(wr.alloc o).grownBy w2 xv.ownBlock/\((Value.slice i (done.length+1) c2).ownBlock=xv.ownBlock\/(Value.slice i (done.length+1) c2).ownBlock=some (wr.alloc o).heap.size)) :
  Jl wi xb left (.slice i (done.length+1) c2) (done++[s]) (w2.setCell (xb,1) (.slice i (done.length+1) c2)):=by
 have p:Aj (fun k=>xv.ownBlock=some k) wr w2:=((Aj.refl _ wr).alloc o).next (.CE t.1);have I:Aj (fun k=>xv.ownBlock=some k\/k=xb) wr (w2.setCell (xb,1) (.slice i (done.length+1) c2)):=(p.mono (fun a0 J=>.inl J)).set (p:=⟨xb,1,none⟩) (.inr (.inr rfl)) _;have l:¬xv.ownBlock=some xb:=Cz h.own h.box (by decide);have U:=h.box.lt;refine⟨?_,by simpa using(p.Ap h.box l).Be 1 (.slice i (done.length+1) c2),?_,h.hx⟩
 ·refine h.below.trans (I.below h.below.size ?_)
  rintro k T (C|C)
  ·have:=(B4 h.own k C).1;omega
  ·have:=h.hx;omega
 ·rw[show (done++[s]).length=done.length+1 by simp,By]
  refine EC P ?_ _;intro e;rcases t.2 with j|j
  ·exact l (j▸e)
  ·rw[j]at e;injection e with e;simp at e;omega
end Jl
def LC(R:List (List AO)):Prop:=∀r∈R,r≠[]/\r.length<=100001
theorem QX{o:AO->Bool}:∀(l:List Tk) (k:Nat) {b j:Bd},DV o b k l=.ok j->j.R=b.R
 | [],k,b,j,h=>by injection h with h;rw[h]
 | t::l,k,b,j,h=>by
  unfold DV at h;cases i:D5 o b t k with
  | error f=>rw[i]at h;cases h
  | ok p=>
   rw[i]at h;rw[QX l (k+1) h];unfold D5 at i;split at i
   ·cases i
   split at i
   ·injection i with i;rw[<-i]
   split at i
   ·split at i
    ·cases i
    ·injection i with i;rw[<-i]
   split at i
   ·injection i with i;rw[<-i]
   ·cases i
theorem fO{o:AO->Bool}{b l:Bd}{left:AO}{s:PS}(t:s.l.length<=100000)(h0:LC b.R)(h:Ec o b left s=.ok l):LC l.R:=by
 unfold Ec at h;split at h
 ·cases h
 cases j:DV o b 0 s.l with
 | error f=>rw[j]at h;cases h
 | ok p=>
  rw[j]at h;simp only at h;split at h
  ·cases h
  ·injection h with h
   rw[<-h];intro r i;rcases mA.1 i with i|i
   ·rw[QX _ _ j]at i;exact h0 r i
   ·rw[mS.1 i];simp;omega
def iJ{D:Nat}{b i:Bd}{t:Tk}(h:EO D b t=.ok i):i.R=b.R:=by
 unfold EO at h;split at h
 ·cases h
 split at h
 ·injection h with h;rw[<-h]
 split at h
 ·cases h
 ·injection h with h;rw[<-h]
end
variable{b:Bd}{v:Value}
section
open Go.RowKit Go.Proofs.Tryz Go.Maps
structure Has(w0 w:World)(tv nv Rv:Value)(g:PG)(R:List BC):Prop where
 ft:w.ownsRow w0 9 1 tv g.T.length (g.T.map Nv)
 fn:w.ownsRow w0 9 1 nv g.N.length (g.N.map Nv)
 fR:w.ownsRow w0 119 2 Rv R.length (R.flatMap BC.cells)
 IV:∀q∈R,w.ownsRow w0 3 1 q.v q.r.length (q.r.map Mark)
 r:R.map BC.g=g.R
def S5(i:World)(r:Except Bm PG)(e:Ending)(w':World):Prop:=
 Below i i w'/\match r with
 | .ok g=>∃o l j R,e=.returned (.agg #[o,l,j,g.s])/\Has i w' o l j g R
 | .error f=>Qx f e
def jO{w:World}{g:Nat}{l:List Br}{q:Br}(h:w.ownsRow B 180 4 (.slice (g,0) l.length c) l.length (l.flatMap Br.cells))(P:l[k]?=some q) :
  w.cell? (g,k*4)=some (.int .i64 q.left.k)/\w.cell? (g,k*4+1)=some (.string (str q.left.s))/\w.cell? (g,k*4+2)=some (.int .i64 q.left.p)/\w.cell? (g,k*4+3)=some q.v:=by
 obtain⟨J,R⟩:=sG.1 P;have i:∀j,j<4->(l.flatMap Br.cells)[k*4+j]?=(Br.cells q)[j]?:=fun j I=>by rw[CJ Br.cells 4 (fun _=>rfl) l k j J I,R]
 have o:=Bh h (k*4) (by omega);have p:=Bh h (k*4+1) (by omega);have t:=Bh h (k*4+2) (by omega);have C:=Bh h (k*4+3) (by omega);rw[o,p,t,C,i 1 (by omega),i 2 (by omega),i 3 (by omega)];have:=i 0 (by omega);rw[Nat.add_zero]at this;rw[this];exact⟨rfl,rfl,rfl,rfl⟩
def gA{w:World}{g:Nat}{l:List GS}{q:GS}(h:w.ownsRow B 183 2 (.slice (g,0) l.length c) l.length (l.flatMap GS.cells))(I:l[k]?=some q) :
  w.cell? (g,k*2)=some q.v/\w.cell? (g,k*2+1)=some (.int .i64 q.s.p):=by
 obtain⟨C,J⟩:=sG.1 I;have i:∀j,j<2->(l.flatMap GS.cells)[k*2+j]?=(GS.cells q)[j]?:=fun j t=>by rw[CJ GS.cells 2 (fun _=>rfl) l k j C t,J]
 have o:=Bh h (k*2) (by omega);have p:=Bh h (k*2+1) (by omega);rw[o,p,i 1 (by omega)];have:=i 0 (by omega);rw[Nat.add_zero]at this;rw[this];exact⟨rfl,rfl⟩
def Ta{i:Type}{l:List i}{a:i}(h:l[k]?=some a):l.drop k=a::l.drop (k+1):=by obtain⟨j,e⟩:=sG.1 h;rw[List.drop_eq_getElem_cons j,e]
def X8{w:World}{g:Nat}(h:w.ownsRow B e s (.slice (g,0) n c) n xs):n<=c/\c<=9223372036854775807:=by
 rcases Bi h with⟨i,_⟩|⟨b,c2,i,_,_,j,l,_⟩
 ·cases i
 ·cases i
  unfold maxLen at l;exact⟨j,by omega⟩
def ZG:Array Value:=#[.slice none 0 0,.slice none 0 0,.slice none 0 0,.int .i64 0]
def PA{U w:World}{i o l g:Nat}{tv nv J:Value}{I:List BI}{p:DataW Unit}(h:BQ U w i o l rb tv nv J b I C p)(T:Aj (Dw i o l tv nv) w w')(j:Ah w g t cs)(P:t≠146)(R:t≠9):Ah w' g t cs:=T.Ap j (KQ h j P R)
def Tb{w0 w:World}{i p o g:Nat}{tv nv j:Value}{J:List BI}{I:DataW Unit}(h:BQ w0 w i p o rb tv nv j b J I C)(U:Aj (Og i p o tv nv j) w w')(l:Ah w g t cs)(P:t≠146)(R:t≠9)(T:t≠55):Ah w' g t cs:=U.Ap l (YV h l P R T)
def Ea.last{j w:World}{P i:Nat}{p1 p2 p3 tv nv U o:Value}{T:List BI}{R:List BC}{st:Int}{g:PG}(h:Ea j w P p1 p2 p3 tv nv U o b T R st)(hg:Ah w i 58 ZG)(a0:j.heap.size<=i)(hT:g.T=b.T)(hN:g.N=b.N)(hR:R.map BC.g=g.R)(hs:(g.s:Int)=st)(u0 u1 u2 u3:Value) :
  S5 j (.ok g) (.returned (.agg #[tv,nv,o,.int .i64 st])) ((((w.setCell ⟨i,0,none⟩ u0).setCell ⟨i,1,none⟩ u1).setCell ⟨i,2,none⟩ u2).setCell ⟨i,3,none⟩ u3):=by
 have C:Aj (·=i) w ((((w.setCell ⟨i,0,none⟩ u0).setCell ⟨i,1,none⟩ u1).setCell ⟨i,2,none⟩ u2).setCell ⟨i,3,none⟩ u3):=((((Aj.refl (·=i) w).set (p:=⟨i,0,none⟩) (.inr rfl) _).set (p:=⟨i,1,none⟩) (.inr rfl) _).set (p:=⟨i,2,none⟩) (.inr rfl) _).set (p:=⟨i,3,none⟩) (.inr rfl) _;have l:∀{e:TypeId} {p n:Nat} {v:Value} {t:List Value},w.ownsRow j.heap.size e p v n t->e≠58->World.ownsRow ((((w.setCell ⟨i,0,none⟩ u0).setCell ⟨i,1,none⟩ u1).setCell ⟨i,2,none⟩ u2).setCell ⟨i,3,none⟩ u3) j.heap.size e p v n t:=by intro e p n v t J he;refine C.own J ?_;rintro k I rfl;exact Cz J hg he I
 refine⟨h.below.trans (C.below h.below.size (fun k I e=>by omega)),tv,nv,o,R,by rw[hs],⟨?_,?_,l h.fR (by decide),fun q hq=>l (h.IV q hq) (by decide),hR⟩⟩
 ·rw[hT];exact l h.ft (by decide)
 ·rw[hN];exact l h.fn (by decide)
def Xn{I w:World}{bb tm nm:Nat}{tv nv gv:Value}(h:BQ I w bb tm nm rb tv nv gv ⟨[],[],[]⟩ [] DT DN)(P:DS I B rb mb tb l x dv kv sv rv rs D)(ck:rs.map Br.r=x.rules)
  (ea:x.marks.length=x.starts.length) (ec:∀t∈x.decl,t.s.length<=8192) (ef:∀t∈x.starts,t.s.length<=8192) (ed:DI x.marks<=100000)
  (ee:∀r∈rs,r.left.s.length<=8192/\∀q∈r.ss,(∀t∈q.s.l,t.s.length<=8192)/\q.s.l.length<=100000) :
  () 66 #[(bb,0)] w (S5 I (Gr x)):=by
 have bj:=Hd (h.alloc (.cells ZG 58));have db:=Hd (Ah.new w 58 ZG);have an:=Hd (ZR bj P ck ea ec ef rfl ed);have eh:=h.below.size;have gl:w.heap.size<(w.alloc (.cells ZG 58)).heap.size:=by simp
 unfold ZG at an;have d5:Hid (∀o,Below I I o->o.cell? (rb,3)=some sv/\o.cell? (rb,4)=some rv):=Hd (fun o hb=>by obtain⟨_,_,a3,a4,_,_⟩:=(P.later hb).Bu.A0.cells;exact⟨a3,a4⟩)
 obtain⟨As,cs,ah⟩:=BF P.Bu.starts;obtain⟨Ar,cr,g1⟩:=BF P.rules;have f7:Hid (∀k q,rs[k]?=some q->∃g c,rv=.slice (some ⟨g,0,none⟩) rs.length c/\∀o,Below I I o->o.cell? ⟨g,k*4,none⟩=some (.int .i64 q.left.k)/\o.cell? ⟨g,k*4+1,none⟩=some (.string (str q.left.s))/\o.cell? ⟨g,k*4+2,none⟩=some (.int .i64 q.left.p)/\o.cell? ⟨g,k*4+3,none⟩=some q.v):=Hd (fun k t ht=>by obtain⟨hk,_⟩:=sG.1 ht;obtain⟨g,c,hv⟩:=Jn P.rules (by omega);refine⟨g,c,hv,fun o b1=>?_⟩;have p:=(Aj.AJ (X:=fun _=>False) b1).own P.rules (fun _ _=>id);rw[hv]at p;exact jO p ht)
 have fb:Hid (∀q∈rs,(∃A c,q.v=.slice A q.ss.length c)/\q.ss.length<=9223372036854775807/\∀j s,q.ss[j]?=some s->∃g c,q.v=.slice (some ⟨g,0,none⟩) q.ss.length c/\∀o,Below I I o->o.cell? ⟨g,j*2,none⟩=some s.v/\o.cell? ⟨g,j*2+1,none⟩=some (.int .i64 s.s.p)):=Hd (fun q hq=>by have bc:=(P.Hl q hq).1;refine⟨BF bc,(by have:=Ry bc;unfold maxLen at this;omega),fun j s R=>?_⟩;obtain⟨hk,_⟩:=sG.1 R;obtain⟨g,c,hv⟩:=Jn bc (by omega);refine⟨g,c,hv,fun o b1=>?_⟩;have p:=(Aj.AJ (X:=fun _=>False) b1).own bc (fun _ _=>id);rw[hv]at p;exact gA p R)
 have fd:Hid ((x.starts=[]/\x.starts.length=0)\/∃st r,x.starts=st::r/\(0:Int)<(x.starts.length:Int)/\∃g c,sv=.slice (some ⟨g,0,none⟩) x.starts.length c/\∀o,Below I I o->o.cell? ⟨g,1,none⟩=some (.string (str st.s))):=Hd (by
  cases R:x.starts with
  | nil=>exact .inl ⟨rfl,rfl⟩
  | cons st r=>
   have fz:0<x.starts.length:=by rw[R];simp
   obtain⟨g,c,hv⟩:=Jn P.Bu.starts fz;refine .inr ⟨st,r,rfl,by rw[<-R];omega,g,c,by rw[<-R];exact hv,fun o b1=>?_⟩;have p:=(Aj.AJ (X:=fun _=>False) b1).own P.Bu.starts (fun _ _=>id);rw[hv]at p;exact(Ny (k:=0) p (by rw[R];rfl)).2.1)
 have gr:rs.length<=100000:=by have:=P.lr;omega
 have gs:x.starts.length<=100000:=by have:=P.Bu.ls;omega
 have HR:=Hd P;have HX:=Hd ck;have fc:=Hd ee;clear h P ck ea ec ef ed ee;subst ah;subst g1;generalize e4:rs.length=nr at *;generalize e6:x.starts.length=ns at *;have di:=Hd e4;clear e4 e6;cases hh:Gn x with
 | error f=>
  have HE:Hid (Gr x=.error f):=Hd (by unfold Gr;rw[hh]);rw[hh]at an;clear hh;go_enter func66,ntmps66
  go_wp2_with (go_at_call 89;refine an.mono ?_;rintro e w1 ⟨dr,h5,fy,rfl⟩)
  refine⟨rfl,dr,?_⟩;rw[HE.out];exact⟨_,fy,rfl⟩
 | ok T=>
  rw[hh]at an;have b5:Hid (∀r,Dd (leftOf x) T.length ⟨T,[],[]⟩ x.rules=r->Gr x=match r with | .error f=>.error f | .ok b=>.ok (G4 x b)):=Hd (fun r P=>by unfold Gr;rw[hh];simp only;rw[P];cases r<;>rfl);clear hh;go_enter func66,ntmps66
  go_wp2_with (
         go_at_call 89;refine an.mono ?_;rintro e w1 ⟨dr,rfl,g9,ei,d3,d1,U,z2⟩
         have au:Hid (BQ I w1 bb tm nm rb g9 ei gv ⟨T,[],[]⟩ [] d3 d1):=Hd U;have dc:Hid (Ah w1 w.heap.size 58 ZG):=Hd (PA bj z2 db (by decide) (by decide));have gm:=dc.lt;obtain⟨c0,c1,c2,c3,c4,c7,aa⟩:=au.cells;obtain⟨k3,k4⟩:=d5 w1 au.below;obtain⟨At,ct,g4⟩:=BF au.ft;subst g4;clear U z2)
  generalize w.heap.size=g0 at *;clear c1 c2 c3 c4 c7 an db bj;have gi:T.length<=120:=au.lt;go_loopw [29] (fun aj wr=>∃(k:Nat) (i:Bd) (cv cn c8:Value) (a7:List BI) (d2 cz:DataW Unit),k<=nr/\aj=.int .i64 k/\Hid (BQ I wr bb tm nm rb cv cn c8 i a7 d2 cz)/\Hid (Ah wr g0 58 ZG)/\Hid (Dd (leftOf x) T.length ⟨T,[],[]⟩ x.rules=Dd (leftOf x) T.length i ((rs.drop k).map Br.r))/\Hid (LC i.R)) (fun aj _=>nr-(intOf aj).toNat)
  case atStart=>exact⟨0,⟨T,[],[]⟩,_,ei,gv,[],d3,d1,AX _,rfl,au,dc,Hd (by rw[<-HX.out];rfl),Hd (fun r P=>by cases P)⟩
  case round=>
   rename World=>w9
   obtain⟨k,i,cv,cn,c8,a7,d2,cz,hk,rfl,HA,HG,HY,HN⟩:=hrel;by_cases az:k<nr
   ·obtain⟨q,hq⟩:∃q,rs[k]?=some q:=⟨_,eG (by rw[di.out];exact az)⟩
    obtain⟨g,c,aq,ds⟩:=f7 k q hq;obtain⟨e0,e1,e2,e3⟩:=ds w9 HA.below;cases aq
    have bd:=mG hq;have bv:Hid (Dd (leftOf x) T.length ⟨T,[],[]⟩ x.rules=Dd (leftOf x) T.length i (q.r::(rs.drop (k+1)).map Br.r)):=Hd (by rw[HY.out,Ta hq];rfl);obtain⟨⟨Aq,cq,cj⟩,gw,e7⟩:=fb q bd;have f5:=Hd (fun j s R=>by obtain⟨g,c,h1,p⟩:=e7 j s R;rw[cj]at h1;exact(⟨g,c,h1,p⟩:∃g c,Value.slice Aq q.ss.length cq=.slice (some ⟨g,0,none⟩) q.ss.length c/\∀o,Below I I o->o.cell? ⟨g,j*2,none⟩=some s.v/\o.cell? ⟨g,j*2+1,none⟩=some (.int .i64 s.s.p)));rw[cj]at e3;have dd:=Hd (HR.Hl q bd);obtain⟨ch,e8⟩:=fc q bd
    have bq:=Hd e8;have ff:=Hd (Ah.new w9 180 #[q.left.k,.string (str q.left.s),q.left.p,(.slice Aq q.ss.length cq)]);have bk:=Hd (HA.alloc (.cells #[q.left.k,.string (str q.left.s),q.left.p,(.slice Aq q.ss.length cq)] 180));have eu:Hid (Ah (w9.alloc (.cells #[q.left.k,.string (str q.left.s),q.left.p,(.slice Aq q.ss.length cq)] 180)) g0 58 ZG):=Hd (HG.alloc _);have b9:=Hd (aW bk q.left ch T.length (T.length:Int) rfl);have ca:=HA.cells;obtain⟨d0,_,_,_,_,_,ca⟩:=ca;clear hq ds e7 e8 bd cj
    cases af:EO T.length i q.left with
    | error f=>
     have HE:=Hd (b5 (.error f) (by rw[bv.out,Dd,JS,show q.r.left=q.left from rfl,af]));rw[af]at b9;clear af ch;go_wp2_with (go_at_call 90;refine b9.mono ?_;intro e w2 hx;obtain⟨ab,hx⟩:=hx;have hx:e=_:=hx;subst hx)
     refine⟨rfl,ab,?_⟩;rw[HE.out];exact⟨_,rfl,rfl⟩
    | ok b2=>
     have fi:Hid (Dd (leftOf x) T.length ⟨T,[],[]⟩ x.rules=match Fq (leftOf x) q.left.s b2 (q.ss.map GS.s) with | .error e=>.error e | .ok i=>Dd (leftOf x) T.length i ((rs.drop (k+1)).map Br.r)):=Hd (by rw[bv.out,Dd,JS,show q.r.left=q.left from rfl,af];have e1:q.r.GX=q.ss.map GS.s:=rfl;simp only[e1];cases Fq (leftOf x) q.left.s b2 (q.ss.map GS.s)<;>rfl)
     have ey:Hid (LC b2.R):=Hd (by rw[iJ af];exact HN);rw[af]at b9;clear af ch bv;go_wp2_with (
             go_at_call 90;refine b9.mono ?_;intro e w2 hx;obtain⟨ab,rfl,ga,g7,em,ek,U,z2,z3,z4⟩:=hx
             have eo:=Hd U;have ak:=Hd (PA bk z2 eu (by decide) (by decide));have ba:=Hd (PA bk z2 ff (by decide) (by decide));have x3:=ba.cell 3;simp at x3;have cm:=ba.lt;clear ab U z2 z3 z4)
     have ej:=ba.cell 1;simp at ej;generalize w9.heap.size=xb at *;generalize dz:q.ss.length=nq at *;have dh:=Hd dz;clear dz x3 ej e0 e1 e2 e3 d0 c0 k3 k4 cm;go_loopw [41] (fun j wy=>∃(m:Nat) (b3:Bd) (cy cp c9:Value) (bz:List BI) (bi bh:DataW Unit),m<=nq/\j=.int .i64 m/\Hid (BQ I wy bb tm nm rb cy cp c9 b3 bz bi bh)/\Hid (Ah wy g0 58 ZG)/\Hid (Ah wy xb 180 #[q.left.k,.string (str q.left.s),q.left.p,.slice Aq nq cq])/\Hid (Dd (leftOf x) T.length ⟨T,[],[]⟩ x.rules=match Fq (leftOf x) q.left.s b3 ((q.ss.drop m).map GS.s) with | .error e=>.error e | .ok i=>Dd (leftOf x) T.length i ((rs.drop (k+1)).map Br.r))/\Hid (LC b3.R)) (fun j _=>nq-(intOf j).toNat)
     case atStart=>exact⟨0,b2,ga,g7,c8,a7,em,ek,AX _,rfl,eo,ak,ba,fi,ey⟩
     case round=>
      obtain⟨m,b3,cy,cp,c9,bz,bi,bh,hm,rfl,bl,a0,bu,bw,de⟩:=hrel;by_cases cf:m<nq
      ·obtain⟨s,R⟩:∃s,q.ss[m]?=some s:=⟨_,eG (by rw[dh.out];exact cf)⟩
       obtain⟨g2,c2,fw,dt⟩:=f5 m s R;obtain⟨s0,s1⟩:=dt wr bl.below;cases fw
       have ar:=mG R;obtain⟨bf,bx,ah⟩:=BF (show I.ownsRow B 173 3 s.v s.s.l.length (s.s.l.flatMap Tk.cells) from dd.2 s ar);rw[ah]at s0;have fg:=Hd (bu.alloc (.cells #[.slice bf s.s.l.length bx,s.s.p] 183));have b8:=Hd (a0.alloc (.cells #[.slice bf s.s.l.length bx,s.s.p] 183));have bm:=Hd (bl.alloc (.cells #[.slice bf s.s.l.length bx,s.s.p] 183));have av:=Hd (XT bm HR HX q.left.s s (dd.2 s ar) (bq s ar).1 (bq s ar).2);rw[ah]at av;have x1:=bu.cell 1
       simp at x1;have cm:=bu.lt;have d6:=Hd (Ta R);have fa:=Hd (fun b4 (h:Ec (leftOf x) b3 q.left.s s.s=.ok b4)=>fO (bq s ar).2 de h);clear R dt ar ah;generalize s.s.l.length=h4 at *;cases ag:Ec (leftOf x) b3 q.left.s s.s with
       | error f=>
        have HE:=Hd (b5 (.error f) (by rw[bw.out,d6.out,List.map_cons,Fq,ag]));rw[ag]at av;clear ag;go_wp2_with (go_at_call 91;refine av.mono ?_;intro e w2 hx;obtain⟨ab,hx⟩:=hx;have hx:e=_:=hx;subst hx)
        refine⟨rfl,ab,?_⟩;rw[HE.out];exact⟨_,rfl,rfl⟩
       | ok b4=>
        have fj:Hid (Dd (leftOf x) T.length ⟨T,[],[]⟩ x.rules=match Fq (leftOf x) q.left.s b4 ((q.ss.drop (m+1)).map GS.s) with | .error e=>.error e | .ok i=>Dd (leftOf x) T.length i ((rs.drop (k+1)).map Br.r)):=Hd (by rw[bw.out,d6.out,List.map_cons,Fq,ag]);have ez:=Hd (fa b4 ag);rw[ag]at av;clear ag;go_wp2_with (
                go_at_call 91;refine av.mono ?_;intro e w2 hx;obtain⟨ab,rfl,gb,g8,fq,fp,en,el,U,z2,_,_,_⟩:=hx
                have ep:=Hd U;have a2:=Hd (Tb bm z2 b8 (by decide) (by decide) (by decide));have fh:=Hd (Tb bm z2 fg (by decide) (by decide) (by decide));clear ab U z2)
        go_roundw
        case rel=>exact⟨m+1,b4,gb,g8,fq,fp,en,el,by omega,by go_num,ep,a2,fh,fj,ez⟩
        case measure=>simp[intOf];omega
      ·obtain rfl:m=nq:=by omega
       have fk:Hid (Dd (leftOf x) T.length ⟨T,[],[]⟩ x.rules=Dd (leftOf x) T.length b3 ((rs.drop (k+1)).map Br.r)):=Hd (by rw[bw.out,List.drop_of_length_le (by have:=dh.out;omega)];rfl);go_wp2;go_roundw
       case rel=>exact⟨k+1,b3,cy,cp,c9,bz,bi,bh,by omega,by go_num,bl,a0,fk,de⟩
       case measure=>simp[intOf];omega
   ·obtain rfl:k=nr:=by omega
    have HE:Hid (Gr x=.ok (G4 x i)):=Hd (b5 (.ok i) (by rw[HY.out,List.drop_of_length_le (by have:=di.out;omega)];rfl));have gq:a7.length<=300:=by have h1:=HA.names;have p:=HA.lr;rw[<-h1,lM]at p;exact p
    obtain⟨Ag,cg,aq⟩:=BF HA.fg;subst aq;have ev:=Hd (Ea.of HA);obtain⟨d0,_,_,_,_,d7,ca⟩:=HA.cells;have f4:Hid (∀u∈a7,∃a r,u.l=a::r/\r.length<=100000):=Hd (fun u hu=>by
     have:=HN u.l (by rw[<-HA.names];exact List.mem_map_of_mem hu);cases hl:u.l with
     | nil=>exact absurd hl this.1
     | cons a r=>exact⟨a,r,rfl,by have p:=this.2;rw[hl]at p;simp at p;omega⟩)
    have dg:Hid (a7.map BI.l=i.R):=Hd HA.names;generalize dy:a7.length=ng at *;have aw:=Hd dy;clear dy az HA HN b5;go_wp2;clear d0 d7 c0 k3 k4 aa;go_loopg [58] ng (fun n aj wx=>∃(k:Nat) (a1:List BC) (Rv:Value),n=ng-k/\k<=ng/\aj=.int .i64 k/\Hid (Ea I wx bb (rb,0) (.map (some tm)) (.map (some nm)) cv cn (.slice Ag ng cg) Rv i a7 a1 0)/\Hid (Ah wx g0 58 ZG)/\Hid (a1.map BC.g=(i.R.take k).map (GO i.T i.N)))
    case atStart=>exact⟨0,[],_,rfl,AX _,rfl,ev,HG,Hd rfl⟩
    case round=>
     rename World=>C
     obtain⟨k,a1,Rv,fv,hk,rfl,J,ak,bt⟩:=hrel;obtain⟨c0,c3,c4,c5,c6,c7,aa⟩:=J.cells;obtain⟨AR,cR,fs⟩:=BF J.fR;subst fs;by_cases az:k<ng
     ·obtain⟨u,hu⟩:∃u,a7[k]?=some u:=⟨_,eG (by rw[aw.out];exact az)⟩
      have be:=mG hu;obtain⟨a,ra,cl,gx⟩:=f4 u be;obtain⟨g,c,aq⟩:=Jn J.fg (by rw[aw.out];omega);rw[aw.out]at aq;cases aq
      have cc:=J.fg;rw[aw.out]at cc;have u0:=Bh cc k (by omega);rw[pG,hu]at u0;simp only[Option.map_some]at u0;have fe:=Hd (J.rows u be);have ai:=J.rows u be;rw[cl]at ai;obtain⟨gu,cu,eg⟩:=Jn ai (by simp);rw[eg]at u0 ai;have dn:Hid (∀o,Below C C o->o.cell? (gu,0)=some (.string (str a))/\∀j s,ra[j]?=some s->o.cell? (gu,1+j)=some (.string (str s))):=Hd (fun o hb=>by have p:=(Aj.AJ (X:=fun _=>False) hb).own ai (fun _ _=>id);refine⟨Bh p 0 (by simp),fun j s R=>?_⟩;obtain⟨hj,_⟩:=sG.1 R;have:=Bh p (1+j) (by simp;omega);rw[this,Nat.add_comm];simp only[List.map_cons,List.getElem?_cons_succ,pG,R];rfl)
      have dx:=Ry ai;obtain⟨du,fu⟩:=X8 ai;have f8:Hid ((i.R.take (k+1)).map (GO i.T i.N)=(i.R.take k).map (GO i.T i.N)++[(B5 i.T i.N a,ra.map (B5 i.T i.N))]):=Hd (by
       have h1:i.R[k]?=some (a::ra):=by rw[<-dg.out,pG,hu];exact congrArg some cl
       obtain⟨cd,e⟩:=sG.1 h1;rw[List.take_succ_eq_append_getElem cd,e,By];rfl)
      have a5:=Hd J.drew;have d9:=Hd (a5.find a);have d4:=Hd ((J.later (AG C (.cells #[.int .i64 0,.slice none 0 0] 119))).drew);have da:=Hd (d4.find a);have dp:=Hd (Ah.new C 119 #[.int .i64 0,.slice none 0 0]);obtain⟨v0,_⟩:=dn C (Below.refl _ _);have dw:=World.block_lt_of_cell? C _ v0;simp at dw;have e9:(a::ra).length=ra.length+1:=rfl;rw[e9]at u0 dx du;unfold maxLen at dx;have fx:(0:Int)<((ra.length+1:Nat):Int):=by omega
      clear ai hu be eg cl cc e9 fe;generalize e5:ra.length=na at *;have df:=Hd e5;clear e5;generalize hF:B5 i.T i.N a=F at *;go_upto_region 16 with fail
      go_cut [9,10] (fun uv xp wz=>uv=.slice (gu,0) (na+1) cu/\∃xb:Nat,xp=(xb,0)/\Hid (Jl C xb F (.slice none 0 0) [] wz))
      case first=>
       go_region_law (
                go_simp;go_at_call 92;first
                | (
                 (with_reducible refine d9.out.mono ?_);rintro e wi ⟨rfl,a8⟩
                 have ax:Hid (Below C C wi):=Hd ((IP C).trans a8);clear a8)
                | (
                 (with_reducible refine da.out.mono ?_);rintro e wi ⟨rfl,a8⟩
                 have ax:Hid (Below C C wi):=Hd ((AG C _).trans (((IP _).trans a8).mono (by simp)));have ay:Hid (Ah wi C.heap.size 119 #[.int .i64 0,.slice none 0 0]):=Hd (dp.below ((IP _).trans a8) (by simp));have y0:=ay.cell 0;have y1:=ay.cell 1;have y2:=ay.frozen 0;have y3:=ay.frozen 1;simp at y0 y1;clear a8))
       all_goals (
        go_wp2_with fail
        go_meet
        first
          | exact⟨rfl,_,rfl,Hd ⟨ax.trans ((AG wi _).mono ax.size),Ah.new wi 119 #[F,.slice none 0 0],World.ownsRow_nil _ _ _ _,ax.size⟩⟩
          | exact⟨rfl,_,rfl,Hd ⟨(((Aj.AJ (X:=fun _=>False) ax).set (p:=⟨C.heap.size,0,none⟩) (.inl (AF _)) _).set (p:=⟨C.heap.size,1,none⟩) (.inl (AF _)) _).below (AF _) (fun _ _=>id),by simpa using(ay.Be 0 F).Be 1 (.slice none 0 0),World.ownsRow_nil _ _ _ _,AF _⟩⟩)
      case rest=>
       obtain⟨rfl,xb,rfl,dj⟩:=hcut;have gf:=Hd (J.later dj.below);clear c0 c3 c4 c5 c6 c7 aa v0 u0 d9 da d4 a5 dp;go_upto_region 17 with fail
       go_cut [9,72,73,74] (fun _ sw nw iw wy=>wy=wc/\nw=.int .i64 na/\iw=.int .i64 0/\∃ad cw,sw=.slice (some ad) na cw/\(0<na->ad=(gu,1)))
       case first=>
        go_wp2_with fail
        all_goals (
          go_wp2_with fail
          go_meet
          first
           | exact⟨rfl,rfl,rfl,_,_,rfl,fun _=>rfl⟩
           | exact⟨rfl,rfl,rfl,_,_,rfl,fun h=>by omega⟩)
       case rest=>
        obtain⟨rfl,rfl,rfl,ad,cw,rfl,dq⟩:=hcut;have er:=Hd dq;clear dq fx du fu dw;have g5:=J.below.size;have gh:a1.length<=300:=by have h1:=congrArg List.length bt;simp at h1;omega
        go_wp2;go_loopg [74] na (fun n aj wy=>∃(j:Nat) (done:List Nat) (xv:Value),n=na-j/\j<=na/\aj=.int .i64 j/\done.length=j/\Hid (Jl C xb F xv done wy)/\Hid (done=(ra.take j).map (B5 i.T i.N)))
        case atStart=>exact⟨0,[],_,rfl,AX _,rfl,rfl,dj,Hd rfl⟩
        case round=>
          obtain⟨_,done,xv,gp,hj,rfl,rfl,a6,d8⟩:=hrel;have bn:=Hd (J.later a6.below);have gy:=a6.below.size;obtain⟨Ax,cx,g6⟩:=BF a6.own;subst g6;obtain⟨c0,c3,c4,c5,c6,c7,aa⟩:=bn.cells;have y0:=a6.box.cell 0;have y1:=a6.box.cell 1;have cm:=a6.box.lt;simp at y0 y1;by_cases cf:done.length<na
          ·obtain⟨t,ht⟩:∃t,ra[done.length]?=some t:=⟨_,eG (by rw[df.out];exact cf)⟩
           have e0:=(dn wr a6.below).2 done.length t ht;obtain rfl:=er (by omega);have et:Hid (done++[B5 i.T i.N t]=(ra.take (done.length+1)).map (B5 i.T i.N)):=Hd (by obtain⟨cd,e⟩:=sG.1 ht;have h1:=d8.out;rw[List.take_succ_eq_append_getElem cd,e,By,<-h1];rfl)
           have bo:=Hd (bn.drew.find t);have br:=Hd (a6.later (IP wr));clear ht;generalize gg:B5 i.T i.N t=F2 at *;go_wp2;go_region_law (first
            | (
              refine EG P9 (.tmp 79) (.tmp 86) ?_ ?_ (base:=C.heap.size) (n:=done.length) (m:=1) (N:=done.length+1) (v:=.slice Ax done.length cx) (src:=.slice (wi,0) 1 1) (xs:=done.map Mark) (news:=[.int .i64 F2]) ?_ ?_ ?_ ?_ ?_ ?_ ?_ ?_ ?_
              ·rfl
              ·rfl
              ·rfl
              ·rfl
              ·exact a9.own.alloc _
              ·exact Q3 wi _
              ·rfl
              ·unfold maxLen;omega
              ·omega
              ·simp;omega
              intro A3 fo w3 r1 r2 r3;have HF:=Hd (a9.app (s:=F2) r1 r3);have hX:Aj (fun k=>(Value.slice Ax done.length cx).ownBlock=some k) wi w3:=((Aj.refl _ wi).alloc (.cells #[F2] 3)).next (.CE r3.1);have ae:=hX.Ap a9.box (Cz a9.own a9.box (by decide));have U:=ae.cell 1;have zf:=ae.frozen 1;simp at U;clear r1 r2 r3 ae hX)
            | (
              go_simp;go_at_call 92;refine bo.mono ?_;rintro e wi ⟨rfl,a8⟩;have a9:=Hd (br.later a8);have gd:=a9.box.cell 1;have gz:=a9.below.size;have h2:=a9.box.lt;simp at gd;clear a8))
           all_goals go_wp2
           all_goals go_roundg (na-(done.length+1))
           all_goals first
            | (case measure=>omega)
            | (case rel=>exact⟨done.length+1,done++[F2],_,rfl,by omega,by go_num,by simp,HF,et⟩)
          ·obtain rfl:na=done.length:=by omega
           have es:Hid (done=ra.map (B5 i.T i.N)):=Hd (by have h1:=d8.out;rw[De (by have:=df.out;omega)]at h1;exact h1)
           have a5:=Hd bn.drew;have br:=Hd (a6.later (IP wr));have al:=Hd ((ak.below a6.below ak.lt).drew);have f6:Hid ((a1++[(⟨F,.slice Ax done.length cx,done⟩:BC)]).map BC.g=(i.R.take (k+1)).map (GO i.T i.N)):=Hd (by rw[By,bt.out,f8.out,<-es.out];rfl)
           go_wp2;go_region_law (
                  refine EG WK (.tmp 95) (.tmp 97) ?_ ?_ (base:=I.heap.size) (n:=a1.length) (m:=1) (N:=a1.length+1) (v:=.slice AR a1.length cR) (src:=.slice (wr,0) 1 1) (xs:=a1.flatMap BC.cells) (news:=[.int .i64 F,.slice Ax done.length cx]) ?_ ?_ ?_ ?_ ?_ ?_ ?_ ?_ ?_
                  ·rfl
                  ·rfl
                  ·rfl
                  ·rfl
                  ·exact a5.fR.alloc _
                  ·exact AY.Ap (c:=1) (Ah.new wr.drew 119 #[F,.slice Ax done.length cx]) rfl (by simp[Value.oneCell'])
                  ·rfl
                  ·unfold maxLen;omega
                  ·omega
                  ·simp;omega
                  intro A3 fo w3 r1 r2 r3;have HF:=Hd (a5.app (q:=⟨F,.slice Ax done.length cx,done⟩) (IZ br.own g5) r1 r3);have a0:=Hd (HF.2.Ap al (by
                   rintro(hh|hh)
                   ·exact Cz a5.fR al (by decide) hh
                   ·subst hh;exact Ah.Bf al a5.Ap (by decide) rfl))
                  have hX:Aj (fun k=>(Value.slice AR a1.length cR).ownBlock=some k) wr.drew w3:=((Aj.refl _ wr.drew).alloc (.cells #[F,.slice Ax done.length cx] 119)).next (.CE r3.1);have ae:=hX.Ap a5.Ap (Cz a5.fR a5.Ap (by decide));have z5:=ae.cell 5;have zf:=ae.frozen 5;simp at z5;clear r1 r2 r3 ae hX)
           all_goals go_wp2
           all_goals go_roundg (ng-(k+1))
           all_goals first
            | (case measure=>omega)
            | (case rel=>exact⟨k+1,a1++[⟨F,.slice Ax done.length cx,done⟩],_,rfl,by omega,by go_num,Hd HF.1,a0,f6⟩)
     ·obtain rfl:k=ng:=by omega
      have dk:Hid (a1.map BC.g=i.R.map (GO i.T i.N)):=Hd (by have h1:=bt.out;rw[De (by have p:=dg.out;have h3:=aw.out;rw[<-p,lM];omega)]at h1;exact h1)
      obtain⟨AT,cT,ft⟩:=BF J.ft;subst ft;obtain⟨AN,cN,fr⟩:=BF J.fn;subst fr;have gj:=J.lt;have ao:=Hd (J.start ((i.T.length:Int)+1));have a0:Hid (Ah (C.setCell (bb,6) (.int .i64 ((i.T.length:Int)+1))) g0 58 ZG):=Hd (ak.BA (p:=⟨bb,6,none⟩) (by rintro rfl;exact Ah.Bf ak J.Ap (by decide) rfl) _);have b6:=J.Ap.frozen 6;clear fv az;go_upto_region 25 with fail
      clear c0 c3 c4 c5 c6 c7 aa b6;generalize C.setCell (bb,6) (.int .i64 ((i.T.length:Int)+1))=wS at *;obtain⟨c0,c3,c4,c5,c6,c7,aa⟩:=ao.1.cells;obtain⟨k3,_⟩:=d5 wS ao.1.below;have z0:=a0.cell 0;have U:=a0.cell 1;have z2:=a0.cell 2;have z3:=a0.cell 3;have f0:=a0.frozen 0;have f1:=a0.frozen 1;have f2:=a0.frozen 2;have f3:=a0.frozen 3;simp[ZG]at z0 U z2 z3;rcases fd.out with⟨b0,rfl⟩|⟨st,sr,b0,e6,g,c,ah,eb⟩
      ·have bp:=Hd (fun u0 u1 u2 u3=>Ea.last (g:=G4 x i) ao.1 a0 eh rfl rfl dk (by unfold G4;rw[b0];simp) u0 u1 u2 u3)
       clear b0;go_wp2;refine bodyPost_ret (v:=.agg #[.slice AT i.T.length cT,.slice AN i.N.length cN,.slice AR a1.length cR,.int .i64 ((i.T.length:Int)+1)]) (by simp[results,results66,go_sem,z0,U,z2,z3]) rfl ?_;rw[HE.out];exact bp _ _ _ _
      ·cases ah
       have g3:=eb wS ao.1.below;have bo:=Hd (ao.1.drew.find st.s);have ew:Hid ((G4 x i).s=B5 i.T i.N st.s):=Hd (by unfold G4;rw[b0]);have al:=Hd a0.drew;have f9:=Hd ao.1.drew;clear b0 eb;generalize B5 i.T i.N st.s=F3 at *;go_wp2;go_region_law (
                go_simp;go_at_call 92;refine bo.mono ?_;rintro e wf ⟨rfl,cb⟩;have b7:=Hd (f9.later cb);have b8:=Hd (al.below cb al.lt);have fl:=b7.cells.2.2.2.2.1;have fm:=b7.Ap.frozen 6;clear cb)
       all_goals have dm:=Hd (b7.start (F3:Int))
       all_goals have a2:Hid (Ah (wf.setCell (bb,6) (.int .i64 (F3:Int))) g0 58 ZG):=Hd (b8.BA (p:=⟨bb,6,none⟩) (by rintro rfl;exact Ah.Bf b8 b7.Ap (by decide) rfl) _)
       all_goals generalize wf.setCell (bb,6) (.int .i64 (F3:Int))=wT at *
       all_goals clear c0 c3 c4 c5 c6 c7 aa k3 z0 U z2 z3 f0 f1 f2 f3 g3 fl fm
       all_goals obtain⟨c0,c3,c4,c5,c6,c7,aa⟩:=dm.1.cells
       all_goals have z0:=a2.cell 0
       all_goals have U:=a2.cell 1
       all_goals have z2:=a2.cell 2
       all_goals have z3:=a2.cell 3
       all_goals have f0:=a2.frozen 0
       all_goals have f1:=a2.frozen 1
       all_goals have f2:=a2.frozen 2
       all_goals have f3:=a2.frozen 3
       all_goals simp[ZG]at z0 U z2 z3
       all_goals have bp:=Hd (fun u0 u1 u2 u3=>Ea.last (g:=G4 x i) dm.1 a2 eh rfl rfl dk (by rw[ew.out]) u0 u1 u2 u3)
       all_goals go_wp2
       all_goals refine bodyPost_ret (v:=.agg #[.slice AT i.T.length cT,.slice AN i.N.length cN,.slice AR a1.length cR,.int .i64 (F3:Int)]) (by simp[results,results66,go_sem,z0,U,z2,z3]) rfl ?_
       all_goals rw[HE.out]
       all_goals exact bp _ _ _ _
end
variable{R:List BC}{w:World}{nv tv:Value}{g:PG}
section
open Go.RowKit Go.Proofs.Tryz Go.Maps
def iU{fn:Func}{i:Frame}{cs:List Frame}{R:Ending->FrameMode->World->Prop}(j:fn.results=#[])(h:R (.returned (.tuple #[])) u w):bodyPostS P fn i cs R .normal {tmps:=tmps,defers:=[]} ({i with mode:=u}::cs) w:=
 ⟨rfl,u,rfl,_,results_none j _ _ _,h⟩
def Mx{W:World}(h:W.heap.size=n):Ah (W.alloc (.cells cs t)) n t cs:=h▸Ah.new W t cs
def WC{o l:Nat} :
  CallsD Tryz.prog 63 #[(o,0),(l,0)] .returning w fun e p w'=>e=.returned (.tuple #[])/\p=.returning/\w'=w:=by
 have t:=PC;refine callsD_of_wpS func63 rfl fun I C i=>?_
 simp only[ntmps63,List.size_toArray,List.length_cons,List.length_nil,Nat.reduceAdd,Nat.reduceSub,Array.replicate_succ,Array.replicate_zero,List.push_toArray,List.append_toArray,List.nil_append,List.cons_append];apply wpS_seq;apply wpS_region;simp[wpOpsS,go_sem,recoverD,i,Exit.thenS];refine wpS_of_wp ?_;have j:=Hd i;clear i;go_wp2;exact RF rfl j ⟨rfl,rfl,rfl⟩
def QP{j o:Nat}{k p:Int}{R:List PanicEntry}{z0 z1 z2 z3:Value}(l:Ah w j 58 #[z0,z1,z2,z3])(t:Ah w o 86 #[v])(J:k≠0) :
  CallsD Tryz.prog 63 #[.pointer (some ⟨j,0,none⟩),.pointer (some ⟨o,0,none⟩)] (.panicking ({v:=.iface 136 (.agg #[.int .i64 k,.int .i64 p]),recovered:=false}::R)) w fun e u' w'=>
   e=.returned (.tuple #[])/\u'=.panicking ({v:=.iface 136 (.agg #[.int .i64 k,.int .i64 p]),recovered:=true}::R)/\∃b,Ah w' b 176 #[.int .i64 k,.int .i64 p]/\Ah w' j 58 ZG/\Ah w' o 86 #[.iface 174 (.pointer (some ⟨b,0,none⟩))]/\Aj (fun i=>i=j\/i=o) w w':=by
 have a0:=Uh;have a2:=SY;have C:o≠j:=Ah.Bf t l (by decide);have a3:=l.lt;have a1:=t.lt;have c0:=l.cell 0;have c1:=l.cell 1;have c2:=l.cell 2;have c3:=l.cell 3;have f0:=l.frozen 0;have f1:=l.frozen 1;have f2:=l.frozen 2;have f3:=l.frozen 3;have d0:=t.cell 0;have df:=t.frozen 0;simp at c0 c1 c2 c3 d0;have P:(k==0)=false:=by simpa using J
 have U:=Hd l;have T:=Hd t;have HN:=Hd (GJ k P p (w.alloc (.cells #[.int .i64 k,.int .i64 p] 136)));clear l t J P;refine callsD_of_wpS func63 rfl fun c₀ cs I=>?_
 simp only[ntmps63,List.size_toArray,List.length_cons,List.length_nil,Nat.reduceAdd,Nat.reduceSub,Array.replicate_succ,Array.replicate_zero,List.push_toArray,List.append_toArray,List.nil_append,List.cons_append];apply wpS_seq;apply wpS_region;simp[wpOpsS,go_sem,recoverD,I,Exit.thenS];refine wpS_of_wp ?_;have HU:=Hd I;clear I;go_wp2_with (go_at_call 64;refine HN.mono ?_;rintro e w' ⟨rfl,rfl⟩)
 refine iU rfl ⟨rfl,rfl,w.heap.size+1,Mx (by simp),?_,?_,?_⟩
 ·simpa [ZG] using(((((((U.Be 0 (.slice none 0 0)).Be 1 (.slice none 0 0)).Be 2 (.slice none 0 0)).Be 3 (.int .i64 0)).BA (p:=⟨o,0,none⟩) (by simpa using Ne.symm C) (.iface 174 (.pointer (some ⟨w.heap.size+1,0,none⟩)))).alloc (.cells #[.int .i64 k,.int .i64 p] 136)).alloc (.cells #[.int .i64 k,.int .i64 p] 176))
 ·simpa using(((((((T.BA (p:=⟨j,0,none⟩) C (.slice none 0 0)).BA (p:=⟨j,1,none⟩) C (.slice none 0 0)).BA (p:=⟨j,2,none⟩) C (.slice none 0 0)).BA (p:=⟨j,3,none⟩) C (.int .i64 0)).Be 0 (.iface 174 (.pointer (some ⟨w.heap.size+1,0,none⟩)))).alloc (.cells #[.int .i64 k,.int .i64 p] 136)).alloc (.cells #[.int .i64 k,.int .i64 p] 176))
 ·exact(((((((Aj.refl (fun i=>i=j\/i=o) w).set (p:=⟨j,0,none⟩) (.inr (.inl rfl)) _).set (p:=⟨j,1,none⟩) (.inr (.inl rfl)) _).set (p:=⟨j,2,none⟩) (.inr (.inl rfl)) _).set (p:=⟨j,3,none⟩) (.inr (.inl rfl)) _).set (p:=⟨o,0,none⟩) (.inr (.inr rfl)) _).alloc _).alloc _
def Yr(h:w.ownsRow B 173 3 v l.length (l.flatMap Tk.cells))(hl:0<l.length):Fa w v l:=by
 rcases h.2 with⟨_,h0⟩|⟨g,cap,o,rfl,h1,t,C,I,h5,J⟩
 ·omega
 ·refine⟨g,0,cap,o,rfl,⟨t,⟨C,I⟩,fun k a0 T=>?_⟩⟩
  obtain⟨R,U⟩:=sG.1 T;have i:∀j,j<3->o[0+k*3+j]?=(Tk.cells a0)[j]?:=fun j P=>by have e:=CJ Tk.cells 3 Tk.MB l k j R P;rw[U]at e;rw[<-e,<-J,List.getElem?_take,if_pos (by omega),Nat.zero_add];simp
  have p:=i 0 (by omega);rw[Nat.add_zero]at p;exact⟨p,i 1 (by omega),i 2 (by omega)⟩
def SK(w:World)(r:Except Bm PG)(e:Ending)(w':World):Prop:=
 Below w w w'/\match r with
 | .ok g=>∃l j i R,e=.returned (.tuple #[.agg #[l,j,i,g.s],.nilIface])/\Has w w' l j i g R
 | .error f=>∃v,e=.returned (.tuple #[.agg #[.slice none 0 0,.slice none 0 0,.slice none 0 0,.int .i64 0],v])/\J2 w' v f
def Has.mono{l:World}{j:Value}(h:Has l w' tv nv j g R)(i:w.heap.size<=l.heap.size):Has w w' tv nv j g R:=
 ⟨IZ h.ft i,IZ h.fn i,IZ h.fR i,fun q o=>IZ (h.IV q o) i,h.r⟩
def Has.AE{o:World}{p:Value}(h:Has o w tv nv p g R)(j:Aj X w w')(l:∀k,o.heap.size<=k->¬X k):Has o w' tv nv p g R:=
 ⟨j.own h.ft (fun k i=>l k (B4 h.ft k i).1),j.own h.fn (fun k i=>l k (B4 h.fn k i).1),j.own h.fR (fun k i=>l k (B4 h.fR k i).1),fun q t=>j.own (h.IV q t) (fun k i=>l k (B4 (h.IV q t) k i).1),h.r⟩
def bY(v:Value)(w:World):(binOp .neq 86 (.iface 174 v) .nilIface).run Tryz.prog w=.ok (.bool true) w:=by kernel_rfl
def fL(w:World):(binOp .neq 86 .nilIface .nilIface).run Tryz.prog w=.ok (.bool false) w:=by kernel_rfl
def ZD(w:World):(Instr.makeMap 139 none).run Tryz.prog w=.ok (.map (some w.heap.size)) (w.alloc (.map #[] 0)):=by kernel_rfl
theorem eB(h:(i.all fun p=>!p.goexit)=true):i.dropWhile (fun x=>!x.goexit)=[]:=by
 induction i with
 | nil=>rfl
 | cons a r j=>simp only[List.all_cons,Bool.and_eq_true]at h;rw[List.dropWhile_cons,if_pos h.1,j h.2]
def Zb(s:ByteArray)(hs:s.size<=4611686018427387904)(w:World)(hm:Gy w):() 40 #[.string s] w (SK w (Fk s.data.toList)):=by
 have c8:∀(fn:Fn) (first cap:Array Value) (w:World),(Instr.makeFunc fn first cap).run Tryz.prog w=.ok (.func fn first cap) w:=fun _ _ _ _=>rfl
 have n1:=bY;have n2:=fL;have c9:=ZD;have ax:Below w w ((w.alloc (.cells ZG 58)).alloc (.cells #[.nilIface] 86)):=(AG w _).alloc (by simp) _;have ab:=Hd (eP s hs ((w.alloc (.cells ZG 58)).alloc (.cells #[.nilIface] 86)) (hm.later ax));have aj:Hid (Ah ((w.alloc (.cells ZG 58)).alloc (.cells #[.nilIface] 86)) w.heap.size 58 ZG):=Hd ((Ah.new w 58 ZG).alloc _);have ah:Hid (Ah ((w.alloc (.cells ZG 58)).alloc (.cells #[.nilIface] 86)) (w.heap.size+1) 86 #[.nilIface]):=Hd (Mx (by simp));have ad:=Hd ax;have cc:w.heap.size+1<((w.alloc (.cells ZG 58)).alloc (.cells #[.nilIface] 86)).heap.size:=by simp
 clear ax hm;cases C:tokens s.data.toList with
 | error f=>
  have HE:Hid (Fk s.data.toList=.error f):=Hd (by unfold Fk;rw[C]);rw[C]at ab;clear C
  go_enter_defers func40,ntmps40
  go_wp2_with (
      go_at_call 62;refine ab.mono ?_;intro e w1 l;obtain⟨a0,v,rfl,b,rfl,bc⟩:=l
      have av:=Hd (aj.below a0 aj.lt);have a3:=Hd (ah.below a0 ah.lt);have b6:=Hd bc;have ao:=Hd (ad.trans (a0.mono ad.size));have o:=a3.cell 0;have df:=a3.frozen 0;simp at o;clear a0 bc)
  generalize ay:w.heap.size=i at *;generalize bq:i+1=j at *;have az:j≠i:=by omega
  have I:=Hd (av.BA (p:=⟨j,0,none⟩) (Ne.symm az) (.iface 174 (b,0)));have a5:Hid (Ah (w1.setCell (j,0) (.iface 174 (b,0))) j 86 #[.iface 174 (b,0)]):=Hd (by simpa using a3.Be 0 (.iface 174 (b,0)));have ar:=Hd (b6.BA (p:=⟨j,0,none⟩) (Ah.Bf b6 a3 (by decide)) (.iface 174 (b,0)));have ae:=Hd ((Aj.AJ (X:=fun _=>False) (a:=w) (b:=w1) (by rw[ay];exact ao)).set (p:=⟨j,0,none⟩) (.inl (by show w.heap.size<=j;omega)) (.iface 174 (b,0)))
  clear o df;generalize w1.setCell (j,0) (.iface 174 (b,0))=p at *;have J:=I.cell 0;have P:=I.cell 1;have R:=I.cell 2;have T:=I.cell 3;have f0:=I.frozen 0;have f1:=I.frozen 1;have f2:=I.frozen 2;have f3:=I.frozen 3;have o:=a5.cell 0;have df:=a5.frozen 0;simp[ZG]at J P R T o
  go_region
  all_goals go_wp2
  all_goals simp only[bodyPostD,Leaves]
  all_goals refine⟨.tuple #[.agg #[.slice none 0 0,.slice none 0 0,.slice none 0 0,.int .i64 0],.iface 174 (b,0)],by simp[results,results40,go_sem,J,P,R,T,o],?_⟩
  all_goals rw[HE.out]
  all_goals
   have al:b≠i:=Ah.Bf ar I (by decide);have bp:b≠j:=Ah.Bf ar a5 (by decide);have bo:=(((((ae.set (p:=⟨i,0,none⟩) (.inl (by show w.heap.size<=i;omega)) (.slice none 0 0)).set (p:=⟨i,1,none⟩) (.inl (by show w.heap.size<=i;omega)) (.slice none 0 0)).set (p:=⟨i,2,none⟩) (.inl (by show w.heap.size<=i;omega)) (.slice none 0 0)).set (p:=⟨i,3,none⟩) (.inl (by show w.heap.size<=i;omega)) (.int .i64 0)).set (p:=⟨j,0,none⟩) (.inl (by show w.heap.size<=j;omega)) (.iface 174 (b,0))).drew;exact⟨bo.below (AF _) (fun _ _=>id),_,rfl,b,rfl,(((((ar.BA (p:=⟨i,0,none⟩) al _).BA (p:=⟨i,1,none⟩) al _).BA (p:=⟨i,2,none⟩) al _).BA (p:=⟨i,3,none⟩) al _).BA (p:=⟨j,0,none⟩) bp _).drew⟩
 | ok ts=>
  have a4:=Hd (YC C);have a3:Hid (∀r,FD ts=r->Fk s.data.toList=match r with | .error f=>.error f | .ok x=>Gr x):=Hd (fun r hr=>by unfold Fk;rw[C];simp only;rw[hr];cases r<;>rfl);rw[C]at ab;clear C
  go_enter_defers func40,ntmps40
  go_wp2_with (
      go_at_call 62;refine ab.mono ?_;intro e w1 l;obtain⟨a0,v,rfl,b1⟩:=l
      have av:=Hd (aj.below a0 aj.lt);have a8:=Hd (ah.below a0 ah.lt);have ao:=Hd (ad.trans (a0.mono ad.size));have ba:=Hd b1;obtain⟨A,c,hv⟩:=BF b1;subst hv;have o:=a8.cell 0;have df:=a8.frozen 0;have br:=a8.lt;simp at o;clear a0 b1)
  generalize ay:w.heap.size=i at *;generalize bq:i+1=j at *;have az:j≠i:=by omega
  have I:=Hd (av.BA (p:=⟨j,0,none⟩) (Ne.symm az) .nilIface);have a5:Hid (Ah (w1.setCell (j,0) .nilIface) j 86 #[.nilIface]):=Hd (by simpa using a8.Be 0 .nilIface);have ae:=Hd ((Aj.AJ (X:=fun _=>False) (a:=w) (b:=w1) (by rw[ay];exact ao)).set (p:=⟨j,0,none⟩) (.inl (by show w.heap.size<=j;omega)) .nilIface);have b9:=Hd (EC ba (p:=⟨j,0,none⟩) (Cz ba a8 (by decide)) .nilIface);have bh:(w1.setCell (j,0) .nilIface).heap.size=w1.heap.size:=by simp
  clear o df br;generalize w1.setCell (j,0) .nilIface=p at *;rw[<-bh];clear bh;have bu:0<ts.length:=by obtain⟨a2,r,h⟩:=a4.ended.cons;rw[h];simp
  have b0:=B4 b9;have c7:=I.lt;have bz:=a5.lt;have bw:i<=((w.alloc (.cells ZG 58)).alloc (.cells #[.nilIface] 86)).heap.size:=by simp;omega
  have b7:=Hd (YP (w:=(p.alloc (.map #[] 0)).alloc (.cells #[.slice A ts.length c,.slice none 0 0,.slice none 0 0,.slice none 0 0,.slice none 0 0,.map (some p.heap.size)] 142)) (B:=p.heap.size+1+1) (rb:=p.heap.size+1) (mb:=p.heap.size) (tb:=(Value.slice A ts.length c).ownBlock) (l:=ts)
   ⟨⟨⟨_,Mx (by simp),Yr (((Aj.refl (fun _=>False) p).alloc _ |>.alloc _).own b9 (fun _ _=>id)) bu,rfl⟩,a4.ended,fun e=>by have:=(b0 _ e).2;omega⟩,World.ownsRow_nil _ _ _ _,World.ownsRow_nil _ _ _ _,World.ownsRow_nil _ _ _ _,(fun g hg=>by cases hg),by omega,(fun g hg=>by have:=(b0 g hg).2;omega),by simp,by simpa using a4.len,by simpa using a4.len,by simpa using a4.len⟩
   (World.ownsMap.alloc (World.ownsMap_made p Tryz.prog 9 (plainElem Tryz.prog 3)) _) (by omega) (by omega) (fun u hu=>(a4.all u hu).1))
  have b8:=Hd ((I.alloc (.map #[] 0)).alloc (.cells #[.slice A ts.length c,.slice none 0 0,.slice none 0 0,.slice none 0 0,.slice none 0 0,.map (some p.heap.size)] 142));have b4:=Hd ((a5.alloc (.map #[] 0)).alloc (.cells #[.slice A ts.length c,.slice none 0 0,.slice none 0 0,.slice none 0 0,.slice none 0 0,.map (some p.heap.size)] 142));have bk:=Hd ((ae.alloc (.map #[] 0)).alloc (.cells #[.slice A ts.length c,.slice none 0 0,.slice none 0 0,.slice none 0 0,.slice none 0 0,.map (some p.heap.size)] 142));have ca:w.heap.size<=p.heap.size:=ae.size;clear b0 bw
  generalize (p.alloc (.map #[] 0)).alloc (.cells #[.slice A ts.length c,.slice none 0 0,.slice none 0 0,.slice none 0 0,.slice none 0 0,.map (some p.heap.size)] 142)=w3 at *;generalize p.heap.size=mb at *;have au:=Hd (eW a4);refine b7.mono ?_;intro e t l;obtain⟨an,l⟩:=l;have ai:=Hd (an.Ap b8 (by omega));have af:=Hd (an.Ap b4 (by omega));have aq:Hid (Aj (fun _=>False) w t):=Hd (bk.trans an (fun a1 hi h=>by omega));clear an;cases hf:FD ts with
  | error f=>
   have HE:=Hd (a3 _ hf);have a7:=au.out;rw[hf]at a7 l;have a7:((f.1:Nat):Int)≠0:=by have:f.1≠0:=a7;omega
   have l:e=_:=l;subst l;simp only[bodyPostD];refine leaves_cons (f:=63) (args:=#[(i,0),(j,0)]) (by simp) (by simp[go_sem]) ?_;refine(QP (show Ah t i 58 #[.slice none 0 0,.slice none 0 0,.slice none 0 0,.int .i64 0] from ai) af a7).mono ?_;rintro e u' w7 ⟨rfl,rfl,b,y1,y2,y3,y4⟩;simp only[settle,List.dropWhile_nil,Leaves];have J:=y2.cell 0;have P:=y2.cell 1;have R:=y2.cell 2;have T:=y2.cell 3;have o:=y3.cell 0;simp[ZG]at J P R T o;refine⟨.tuple #[.agg #[.slice none 0 0,.slice none 0 0,.slice none 0 0,.int .i64 0],.iface 174 (b,0)],by simp[results,results40,go_sem,J,P,R,T,o],?_⟩
   rw[HE.out];exact⟨(aq.trans y4 (fun a1 hi h=>by omega)).below (AF _) (fun _ _=>id),_,rfl,b,rfl,y1⟩
  | ok x=>
   have b5:=Hd (a3 _ hf);have hq:=au.out;rw[hf]at hq l;obtain⟨rfl,l',dv,kv,sv,rv,rs,D,b2,bf⟩:=l;obtain⟨bi,be⟩:=hq;have bm:=Hd bf;have ak:=Hd bi;have bl:=Hd b2;have bn:Hid (∀r∈rs,r.left.s.length<=8192/\∀q∈r.ss,(∀a2∈q.s.l,a2.s.length<=8192)/\q.s.l.length<=100000):=Hd (fun r hr=>by obtain⟨h1,h2⟩:=be r.r (by rw[<-b2];exact List.mem_map_of_mem hr);refine⟨h1.1,fun q hq=>?_⟩;have h3:=h2 q.s (List.mem_map_of_mem hq);exact⟨fun a2 C=>(h3.1 a2 C).1,h3.2⟩)
   clear hf bi b2 bf be au b7 b8 b4;go_wp2_with fail
   have bb:BQ t (((t.alloc (.map #[] 0)).alloc (.map #[] 0)).alloc (.cells #[(mb+1,0),.map (some t.heap.size),.map (some (t.heap.size+1)),.slice none 0 0,.slice none 0 0,.slice none 0 0,.int .i64 0,.slice none 0 0] 146)) (t.heap.size+1+1) t.heap.size (t.heap.size+1) (mb+1) (.slice none 0 0) (.slice none 0 0) (.slice none 0 0) ⟨[],[],[]⟩ [] (.map []) (.map []):=by
    refine⟨((((Aj.refl (fun _=>False) t).alloc _).alloc _).alloc _).below (AF _) (fun _ _=>id),Mx (by simp),World.ownsRow_nil _ _ _ _,World.ownsRow_nil _ _ _ _,World.ownsRow_nil _ _ _ _,rfl,(by simp),(fun k hk=>by cases hk),(by simp),(by simp),World.ownsMap.alloc (World.ownsMap.alloc (World.ownsMap_made t Tryz.prog 9 (plainElem Tryz.prog 3)) _) _,?_,Hy.start,Hy.start,⟨by omega,AF _,by omega⟩,by omega,by simp,by simp,by simp⟩;have h:=World.ownsMap_made (H:=Unit) (t.alloc (.map #[] 0)) Tryz.prog 9 (plainElem Tryz.prog 3);rw[World.size_alloc]at h;exact h.alloc _
   have bj:=Hd (Xn bb bm bl ak.same (fun a2 C=>(ak.decl a2 C).1) (fun a2 C=>(ak.starts a2 C).1) (Zc ak) bn);clear bb;refine bj.mono ?_;intro e w6 l;obtain⟨a9,l⟩:=l;have U:=Hd (ai.below a9 ai.lt);have ag:=Hd (af.below a9 af.lt);have b3:Hid (Aj (fun _=>False) w w6):=Hd (aq.next (.AJ a9));have cb:=a9.size;have bv:=aq.size;have c0:=U.lt;have bx:=ag.lt;have c6:i<t.heap.size/\j<t.heap.size:=⟨ai.lt,af.lt⟩
   clear a9;cases a6:Gr x with
   | error f=>
    have HE:Hid (Fk s.data.toList=.error f):=Hd (by rw[b5.out,<-a6]);have a7:((f.1:Nat):Int)≠0:=by have:f.1≠0:=Zr a6;omega
    rw[a6]at l;obtain⟨cd,bt,rfl⟩:=l;simp only[bodyPostD];refine leaves_cons (f:=63) (args:=#[(i,0),(j,0)]) (by simp) (by simp[go_sem]) ?_;refine(QP (show Ah w6 i 58 #[.slice none 0 0,.slice none 0 0,.slice none 0 0,.int .i64 0] from U) ag a7).mono ?_;rintro e u' w7 ⟨rfl,rfl,b,y1,y2,y3,y4⟩;simp only[settle,eB bt,Leaves];have J:=y2.cell 0;have P:=y2.cell 1;have R:=y2.cell 2;have T:=y2.cell 3;have o:=y3.cell 0;simp[ZG]at J P R T o;refine⟨.tuple #[.agg #[.slice none 0 0,.slice none 0 0,.slice none 0 0,.int .i64 0],.iface 174 (b,0)],by simp[results,results40,go_sem,J,P,R,T,o],?_⟩
    rw[HE.out];exact⟨(b3.trans y4 (fun a1 hi h=>by omega)).below (AF _) (fun _ _=>id),_,rfl,b,rfl,y1⟩
   | ok g=>
    have HE:Hid (Fk s.data.toList=.ok g):=Hd (by rw[b5.out,<-a6]);rw[a6]at l;obtain⟨tv,nv,Rv,aw,rfl,aa⟩:=l;have HH:=Hd aa;obtain⟨A1,c1,rfl⟩:=BF aa.ft;obtain⟨A2,c2,rfl⟩:=BF aa.fn;obtain⟨A3,c3,rfl⟩:=BF aa.fR;have J:=U.cell 0;have P:=U.cell 1;have R:=U.cell 2;have T:=U.cell 3;have f0:=U.frozen 0;have f1:=U.frozen 1;have f2:=U.frozen 2;have f3:=U.frozen 3;have o:=ag.cell 0;have df:=ag.frozen 0;simp[ZG]at J P R T o;clear a6 aa;go_wp2;have bd:Aj (fun a1=>a1=i\/a1=j) w6 (((((w6.setCell (i,0) (.slice A1 g.T.length c1)).setCell (i,1) (.slice A2 g.N.length c2)).setCell (i,2) (.slice A3 aw.length c3)).setCell (i,3) g.s).setCell (j,0) .nilIface):=
     (((((Aj.refl (fun a1=>a1=i\/a1=j) w6).set (p:=⟨i,0,none⟩) (.inr (.inl rfl)) _).set (p:=⟨i,1,none⟩) (.inr (.inl rfl)) _).set (p:=⟨i,2,none⟩) (.inr (.inl rfl)) _).set (p:=⟨i,3,none⟩) (.inr (.inl rfl)) _).set (p:=⟨j,0,none⟩) (.inr (.inr rfl)) _
    simp only[bodyPostD];refine leaves_cons (f:=63) (args:=#[(i,0),(j,0)]) (by simp) (by simp[go_sem]) ?_;refine WC.mono ?_;rintro e u' w7 ⟨rfl,rfl,rfl⟩;simp only[settle,Leaves];refine⟨.tuple #[.agg #[.slice A1 g.T.length c1,.slice A2 g.N.length c2,.slice A3 aw.length c3,g.s],.nilIface],by simp[results,results40,go_sem,J,P,R,T,o],?_⟩;rw[HE.out];exact⟨(b3.trans bd (fun a1 hi h=>by omega)).below (AF _) (fun _ _=>id),_,_,_,aw,rfl,(HH.AE bd (fun k hk h=>by omega)).mono bv⟩
end
section
open Go.RowKit Go.Proofs.Tryz Go.Maps
def N2{o:Type}{E:o->Value}{l:List o}(h:w.ownsRow B e 1 v l.length (l.map E))(j:l.length<=4611686018427387904):BE E w v l:=by
 rcases Bi h with⟨rfl,h0⟩|⟨b,c,rfl,I,p,t,J,_⟩
 ·exact⟨⟨none,0,by rw[h0],fun k x i=>by have:=(sG.1 i).1;omega⟩,j,fun A n c e=>by cases e;exact⟨AF _,fun _=>rfl⟩⟩
 ·refine⟨⟨_,c,rfl,fun k x i=>⟨b,0,rfl,p,?_⟩⟩,j,fun A n C e=>by cases e;exact⟨t,fun e=>by cases e⟩⟩
  have P:=(sG.1 i).1;rw[Nat.zero_add,Bh h k (by omega),pG,i];rfl
def BC.ru(q:BC):Ru:=⟨(q.left:Nat),q.v,q.r.map fun n:Nat=>(n:Int)⟩
def fU(h:w.ownsRow B 119 2 v R.length (R.flatMap BC.cells))(hr:∀q∈R,w.ownsRow B 3 1 q.v q.r.length (q.r.map Mark))(J:R.length<=4611686018427387904)(h8:∀q∈R,q.r.length<=8):Fi w v (R.map BC.ru):=by
 have a1:∀q∈R,BE B3 w (BC.ru q).v (BC.ru q).right:=fun q i=>by
  have C:=hr q i;have e:(BC.ru q).right.length=q.r.length:=by unfold BC.ru;simp
  refine N2 (B:=B) (e:=3) ?_ (by rw[e];have:=h8 q i;omega);rw[e];have P:(BC.ru q).right.map B3=q.r.map Mark:=by unfold BC.ru;rw[List.map_map];rfl
  rw[P];exact C
 rcases Bi h with⟨rfl,h0⟩|⟨b,c,rfl,C,T,U,h4,_⟩
 ·refine⟨⟨none,0,by rw[lM,h0],fun k x l=>?_⟩,by rw[lM];exact J,fun A n c e=>by cases e;exact⟨AF _,fun _=>rfl⟩⟩
  have:=(sG.1 l).1;rw[lM]at this;omega
 ·refine⟨⟨_,c,by rw[lM],fun k x l=>⟨b,0,rfl,T,?_⟩⟩,by rw[lM];exact J,fun A n c' e=>by cases e;exact⟨U,fun e=>by cases e⟩⟩
  rw[pG]at l;obtain⟨q,i,rfl⟩:=Option.map_eq_some_iff.1 l;obtain⟨hk,a0⟩:=sG.1 i;have I:∀j,j<2->(R.flatMap BC.cells)[k*2+j]?=(BC.cells q)[j]?:=fun j hj=>by rw[CJ BC.cells 2 BC.MB R k j hk hj,a0]
  have o:=Bh h (k*2) (by omega);have p:=Bh h (k*2+1) (by omega);have t:=I 0 (by omega);rw[Nat.add_zero]at t;rw[t]at o;rw[I 1 (by omega)]at p;rw[Nat.zero_add];exact⟨o,p,a1 q (mG i)⟩
def S8{s:AO}(h:(CN s||CF s)=true):s.length<=1048576:=by
 rw[Bool.or_eq_true]at h;rcases h with h|h
 ·obtain⟨c,r,rfl,_,_,j⟩:=fE h
  omega
 ·obtain⟨m,rfl,_,_,i⟩:=cE h
  simp;omega
def Wb{o:World}{i:Value}(h:Has o w tv nv i g R):My g (R.map BC.ru):=by
 refine⟨?_,fun r j=>?_⟩
 ·rw[<-h.r,List.map_map]
  refine List.map_congr_left fun q _=>?_
  unfold BC.ru BC.g;refine Prod.ext (by simp) ?_;simp only[Function.comp,List.map_map];exact(List.map_congr_left (fun a _=>by simp[Function.comp])).trans (List.map_id q.r)
 ·obtain⟨q,_,rfl⟩:=List.mem_map.1 j
  refine⟨by unfold BC.ru;simp,fun s l=>?_⟩;obtain⟨n,_,rfl⟩:=List.mem_map.1 l;omega
def Yh{o:World}{i:Value}(h:Has o w tv nv i g R)(j:g.Good):∀q∈R,q.r.length<=8:=fun q l=>by have:=j.g4 q.g (by rw[<-h.r];exact List.mem_map_of_mem l);exact this
def Has.Lp{j:World}{l:Value}(h:Has j w tv nv l g R)(i:g.Good):Et w (.agg #[tv,nv,l,g.s]) (Gm.GF g (R.map BC.ru)):=by
 have U:=i.g1;have g2:=i.g2;have g3:=i.g3;have C:=Yh h i;have a0:R.length=g.R.length:=by rw[<-h.r,lM]
 have J:(g.T.map str).map Cl=g.T.map Nv:=by rw[List.map_map];rfl
 have I:(g.N.map str).map Cl=g.N.map Nv:=by rw[List.map_map];rfl
 refine⟨⟨tv,nv,l,rfl,N2 (B:=j.heap.size) (e:=9) ?_ (by show (g.T.map str).length<=_;rw[lM];omega),N2 (B:=j.heap.size) (e:=9) ?_ (by show (g.N.map str).length<=_;rw[lM];omega),fU h.fR h.IV (by omega) C⟩,?_,?_,?_,?_,?_,?_⟩
 ·show w.ownsRow j 9 1 tv (g.T.map str).length ((g.T.map str).map Cl)
  rw[lM,J];exact h.ft
 ·show w.ownsRow j 9 1 nv (g.N.map str).length ((g.N.map str).map Cl)
  rw[lM,I];exact h.fn
 ·intro s o
  obtain⟨t,p,rfl⟩:=List.mem_map.1 o;rw[Kh];exact S8 (i.g5 t p)
 ·intro s o
  obtain⟨t,p,rfl⟩:=List.mem_map.1 o;rw[Kh];exact S8 (by rw[i.g6 t p];rfl)
 ·show (g.T.map str).length<=_
  rw[lM];omega
 ·show (g.N.map str).length<=_
  rw[lM];omega
 ·show (R.map BC.ru).length<=_
  rw[lM];omega
 ·intro r T
  obtain⟨q,P,rfl⟩:=List.mem_map.1 T;have:=C q P;show (q.r.map fun n:Nat=>(n:Int)).length<=_;rw[lM];omega
end
def Y7(w:World)(e:Ending)(w':World):Prop:=Below w w w'/\∃l j i R g,Fk Hj=.ok g/\Pg g=true/\e=.returned (.agg #[l,j,i,g.s])/\Has w w' l j i g R
def Xs{s:ByteArray}(h:s.data.toList=Hj):s.size<=4611686018427387904:=by
 have:s.size=Hj.length:=by rw[<-h];exact(Array.length_toList (xs:=s.data)).symm
 rw[this];have:Hj.length=2375:=by decide +kernel
 omega
def Zi{b:Nat}{i j l o y0 y1 y2 y3:Value}(h:Ah w b t #[i,j,l,o]):Ah ((((w.setCell (b,0) y0).setCell (b,1) y1).setCell (b,2) y2).setCell (b,3) y3) b t #[y0,y1,y2,y3]:=by simpa using(((h.Be 0 y0).Be 1 y1).Be 2 y2).Be 3 y3
set_option maxRecDepth 1000000 in
def YR(hm:Gy w):() 21 #[] w (Y7 w):=by
 obtain⟨g,U,hb⟩:=gT;have a0:Below w w (w.alloc (.cells ZG 58)):=AG w _;have HP:Hid (∀s:ByteArray,s.data.toList=Hj->() 40 #[.string s] (w.alloc (.cells ZG 58)) (SK (w.alloc (.cells ZG 58)) (.ok g))):=Hd (fun s hs=>by have h:=Zb s (Xs hs) (w.alloc (.cells ZG 58)) (hm.later a0);rw[hs,U]at h;exact h)
 have HG:=Hd (And.intro U hb);clear U hb hm a0;unfold ZG at HP;go_enter func21,ntmps21
 go_wp2_with (go_at_call 40;refine(HP _ ?_).mono ?_)
 ·kernel_rfl
 rintro e J ⟨P,tv,nv,Rv,R,rfl,I⟩;have a2:=P.size;simp at a2;have a1:w.heap.size<J.heap.size:=by omega
 have C:Ah J w.heap.size 58 #[.slice none 0 0,.slice none 0 0,.slice none 0 0,.int .i64 0]:=(Ah.new w 58 _).below P (by simp);have c0:=C.cell 0;have c1:=C.cell 1;have c2:=C.cell 2;have c3:=C.cell 3;have f0:=C.frozen 0;have f1:=C.frozen 1;have f2:=C.frozen 2;have f3:=C.frozen 3;simp at c0 c1 c2 c3;have HK:=Hd C;have HH:=Hd I;have HB:=Hd P;obtain⟨i,o,rfl⟩:=BF I.ft;obtain⟨j,p,rfl⟩:=BF I.fn;obtain⟨l,t,rfl⟩:=BF I.fR;clear P I C;go_wp2;have T:=Hd ((Zi (y0:=.slice i g.T.length o) (y1:=.slice j g.N.length p) (y2:=.slice l R.length t) (y3:=.int .i64 g.s) HK).alloc (.cells #[.slice i g.T.length o,.slice j g.N.length p,.slice l R.length t,g.s] 58))
 have z0:=T.cell 0;have z1:=T.cell 1;have z2:=T.cell 2;have z3:=T.cell 3;simp only[show (#[Value.slice i g.T.length o,.slice j g.N.length p,.slice l R.length t,g.s]:Array Value)[0]?=some (.slice i g.T.length o) from rfl,show (#[Value.slice i g.T.length o,.slice j g.N.length p,.slice l R.length t,g.s]:Array Value)[1]?=some (.slice j g.N.length p) from rfl,show (#[Value.slice i g.T.length o,.slice j g.N.length p,.slice l R.length t,g.s]:Array Value)[2]?=some (.slice l R.length t) from rfl,show (#[Value.slice i g.T.length o,.slice j g.N.length p,.slice l R.length t,g.s]:Array Value)[3]?=some (.int .i64 g.s) from rfl]at z0 z1 z2 z3
 refine bodyPost_ret (v:=.agg #[.slice i g.T.length o,.slice j g.N.length p,.slice l R.length t,g.s]) (by simp[results,results21,go_sem,z0,z1,z2,z3]) rfl ?_;have hX:Aj (fun k=>k=w.heap.size) J ((((((J.setCell (w,0) (.slice i g.T.length o)).setCell (w,1) (.slice j g.N.length p)).setCell (w,2) (.slice l R.length t)).setCell (w,3) g.s).alloc (.cells #[.slice i g.T.length o,.slice j g.N.length p,.slice l R.length t,g.s] 58))):=
  (((((Aj.refl (fun k=>k=w.heap.size) J).set (p:=⟨w.heap.size,0,none⟩) (.inr rfl) _).set (p:=⟨w.heap.size,1,none⟩) (.inr rfl) _).set (p:=⟨w.heap.size,2,none⟩) (.inr rfl) _).set (p:=⟨w.heap.size,3,none⟩) (.inr rfl) _).alloc _
 refine⟨((AG w _).trans (HB.mono (by simp))).trans (hX.below (Nat.le_of_lt a1) (fun k hk e=>by omega)),_,_,_,R,g,HG.1,HG.2,rfl,(HH.AE hX (fun k hk e=>by simp at hk;omega)).mono (by simp)⟩
end Go.Proofs.YtlogpnoioimhjaaGreatDoor
