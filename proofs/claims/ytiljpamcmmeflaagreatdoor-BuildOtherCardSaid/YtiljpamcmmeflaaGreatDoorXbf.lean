/- . -/
import Derived.Test.YtiljpamcmmeflaaGreatDoorXbb
import Derived.Laws.Append
import Derived.Laws.AppendOwn
set_option linter.all false
set_option maxRecDepth 100000
set_option maxHeartbeats 16000000
namespace Go.Proofs.YtiljpamcmmeflaaGreatDoor
open Go.RowKit Go.Proofs.Tryz
open Value renaming slice→nC,int→nE,bool→nI
open Option renaming some→nJ,none→nK
open IntKind renaming i64→nM
open Obj renaming cells→nO
open Ending renaming returned→nP
open World renaming cell?→nQ
open Go renaming World→nS,Value→nU
variable{v:nU}{c g n x:Nat}{E:List (List It)}{K:List (List (Nat×Nat))}{ks l:List Nat}{o:Oper}{a:Act}{Q:Exit->Act->nS->Prop}{j:Array Oper}{xs:List nU}{ad:Addr}
def gE{w:nS}{g:Gz}(h:EP (fun b=>b<w.heap.size) w v g E K){i t:Nat}(p:i<E.length)(ht:t<=g.nt) :
  () 128 #[v,i,t] w fun e w'=>e=nP (.agg #[nE nM (Bp g E K i t).1,nE nM (Bp g E K i t).2])/\Below w w w':=by
 obtain⟨J,cr,C,U,I,cg,rfl,-,j,-⟩:=h.open_;obtain⟨b,off,P,cx,rfl,a1,-,T,l⟩:=j i p;have o:(EA g E K i)[t]?=nJ (Bp g E K i t):=by unfold EA;rw[pG,List.getElem?_range mR];rfl
 obtain⟨R,a5,rfl,a2,-,d0,d1⟩:=l.at_ o;generalize Bp g E K i t=x at *;have a0:(i:Int)<(E.length:Int):=by omega
 have a4:(t:Int)<(g.nt:Int)+1:=by omega
 have a3:(0:Int)<=(g.nt:Int)+1:=by omega
 clear h j l o;generalize E.length=n at *;generalize g.R.length+1=nr at *;generalize g.nn=nn at *;go_enter func128,ntmps128
 go_wp2;refine bodyPost_ret (v:=.agg #[x.1,x.2]) (by simp[results,Tryz.f128,go_sem]) rfl ?_;exact⟨rfl,(AE w _).alloc mV _⟩
def Zz{w:nS}{g:Gz}(h:EP (fun b=>b<w.heap.size) w v g E K){i s:Nat}(I:i<E.length)(P:g.nt<s)(p:s<=g.top)(hn:g.nt<=1000)(a4:g.nn<=1000) :
  () 129 #[v,i,s] w fun e w'=>e=nP (nE nM (DS (E.getD i []) s))/\Below w w w':=by
 obtain⟨U,cr,R,ca,T,cg,rfl,-,-,l⟩:=h.open_;obtain⟨b,off,Ax,cx,rfl,a2,-,c0,o⟩:=l i I;obtain⟨k,rfl⟩:∃k,s=g.nt+1+k:=⟨s-g.nt-1,mR⟩
 have J:k<g.nn:=by unfold Gz.top at p;omega
 have C:(EO g E i)[k]?=nJ (DS (E.getD i []) (g.nt+1+k)):=by unfold EO;rw[pG,List.getElem?_range J];rfl
 obtain⟨b2,a5,rfl,-,a3,d0⟩:=o.at_ C;generalize DS (E.getD i []) (g.nt+1+k)=x at *;have a0:(i:Int)<(E.length:Int):=by omega
 have a1:(k:Int)<(g.nn:Int):=by omega
 have t:((g.nt+1+k:Nat):Int)=(g.nt:Int)+1+k:=by omega
 clear h l o C;generalize E.length=n at *;generalize g.R.length+1=nr at *;generalize g.nn=nn at *;rw[t];clear t P p;generalize g.nt=j at *;go_enter func129,ntmps129
 have e1:(j:Int)+1+k-j-1=k:=by omega
 have e2:¬((j:Int)+1+k<=j):=by omega
 go_wp2;go_ret;exact⟨rfl,AE w _⟩
def Hv(w:nS)(v:nU)(l:List Nat):Prop:=(v=nC nK 0 0/\l=[])\/∃b,v=nC (nJ ⟨b,0,nK⟩) l.length l.length/\b<w.heap.size/\∀k x,l[k]?=nJ x->nQ w ⟨b,k,nK⟩=nJ (AS x)
def jI{w:nS}{ty:TypeId}(h:Hv w v l)(I:nQ w (g,0)=nJ (AS x))(hl:l.length<=100000) :
  ∃o w',(Builtin.append_ #[34,34] ty #[v,nC (g,0) 1 c]).run Tryz.prog w=.ok (nC (w,0) (l.length+1) o) w' /\
   w'.ownsRow w 3 1 (nC (w,0) (l.length+1) o) (l.length+1) ((l++[x]).map AS)/\Below w w w':=by
 rcases h with⟨rfl,rfl⟩|⟨b,rfl,hb,R⟩
 ·obtain⟨A,o,w',t,J,r2,r3⟩:=M3 (P:=Tryz.prog) (ty:=ty) GW (base:=w.heap.size) (n:=0) (m:=1) (N:=1) (v:=nC nK 0 0) (src:=nC (g,0) 1 c) (xs:=[]) (news:=[AS x]) ⟨rfl,.inl ⟨rfl,rfl⟩⟩
   ⟨by simp[Value.oneCell',AS],.inr ⟨_,_,rfl,rfl,fun j v i=>by
    cases j with
    | zero=>simp only[List.getElem?_cons_zero,Option.some.injEq]at i;rw[<-i];simpa [Addr.add] using I
    | succ j=>simp at i⟩⟩ rfl mT mT (AF _)
  have P:A=nJ ⟨w.heap.size,0,nK⟩:=by
   rcases Bg J with⟨_,h0⟩|⟨b,c2,e,_⟩
   ·omega
   ·cases e
    rcases r3.2 with p|p
    ·cases p
    ·cases p;rfl
  subst P;exact⟨o,w',t,by simpa using J,r2.below (AF _)⟩
 obtain⟨ht,⟨a1,z,T,hz,C,U,a0⟩,hp⟩:=GW;have ha:∀j,((b,0):Addr).add j=⟨b,j,nK⟩:=fun j=>by simp[Addr.add];intro h;exact h.symm
 have t:=run_append_grow (P:=Tryz.prog) w 34 ty 3 a1 z ht T hz (b,0) l.length l.length (l.map AS) (by rw[lM,C,Nat.mul_one])
  (fun j v i=>by rw[pG]at i;obtain⟨y,hy,rfl⟩:=Option.map_eq_some_iff.1 i;rw[ha];exact R j y hy)
  (g,0) 1 c [AS x] (by rw[C];rfl)
  (fun j v i=>by
   cases j with
   | zero=>simp only[List.getElem?_cons_zero,Option.some.injEq]at i;rw[<-i];simpa [Addr.add] using I
   | succ j=>simp at i)
  mR mR (growslice_fits mR (by rw[U];omega))
 refine⟨_,_,t,⟨mV,.inr ⟨w.heap.size,_,_,rfl,AF _,heap_alloc_new w.drew _,grownCap_ge w _ _ _,grownCap_le_maxLen w _ _ _ mW,?_,?_⟩⟩,(Below.refl _ w).drew.trans (by simpa using AE w.drew _)⟩
 ·have:=grownCap_ge w (l.length+1) l.length 3
  simp only[Array.size_append,List.size_toArray,size_zeroCells,a0,lM,List.length_cons,List.length_nil,Nat.mul_one];omega
 ·simp only[Array.toList_append,Nat.mul_one]
  rw[Bz,show l.length+1=(l.map AS++[x].map AS).length by simp];exact List.take_left
def wp_cut{w:nS}{K:Act->nS->Prop}(s y:Operand)
  (t:o.op=.call {callee:=.builtin .append,args:=#[s,y],argTypes:=#[34,34]}) (I:a.eval s=v) (P:a.eval y=nC (g,0) 1 c) (h:Hv w v l) (J:nQ w (g,0)=nJ (AS x)) (p:l.length<=100000)
  (j:∀i w',w'.ownsRow w 3 1 (nC (w,0) (l.length+1) i) (l.length+1) ((l++[x]).map AS)->Below w w w'->K (a.put o.dst (nC (w,0) (l.length+1) i)) w'):o.wp Tryz.prog a w K Q:=by
 obtain⟨i,w',C,R,T⟩:=jI (ty:=o.type) (c:=c) h J p;unfold Oper.wp execOp;simp only[t,resolve,invoke,builtin,Sem.run_bind,Sem.run_pure,Result.andThen_ok,List.map_toArray,List.map_cons,List.map_nil,I,P,C];exact j i w' R T
def dS{w:nS}{rest:List Oper}(s y:Operand)(C:o.guard=nK)
  (J:o.op=.call {callee:=.builtin .append,args:=#[s,y],argTypes:=#[34,34]}) (P:a.eval s=v) (T:a.eval y=nC (g,0) 1 c) (h:Hv w v l) (R:nQ w (g,0)=nJ (AS x)) (I:l.length<=100000)
  (p:∀i w',w'.ownsRow w 3 1 (nC (w,0) (l.length+1) i) (l.length+1) ((l++[x]).map AS)->Below w w w'->wpList Tryz.prog j Q rest (a.put o.dst (nC (w,0) (l.length+1) i)) w'):wpList Tryz.prog j Q (o::rest) a w:=
 wpList_plain C fun _ t=>wp_cut s y J P T h R I fun i w' U r2=>t _ _ (p i w' U r2)
def fP{w:nS}{K:Act->nS->Prop}{D:Prop}(s y:Operand)(t:o.guard=nK)
  (I:o.op=.call {callee:=.builtin .append,args:=#[s,y],argTypes:=#[34,34]}) (J:a.eval s=v) (T:a.eval y=nC (g,0) 1 c) (h:Hv w v l) (R:nQ w (g,0)=nJ (AS x)) (C:l.length<=100000)
  (p:∀i w',w'.ownsRow w 3 1 (nC (w,0) (l.length+1) i) (l.length+1) ((l++[x]).map AS)->Below w w w'->K (a.put o.dst (nC (w,0) (l.length+1) i)) w') :
  if Region.wanted o (yielded j a.tmps)=true then Oper.wp Tryz.prog o a w K Q else D:=by
 have P:Region.wanted o (yielded j a.tmps)=true:=by simp[Region.wanted,t]
 rw[if_pos P];exact wp_cut s y I J T h R C p
structure Nd where
 sym:Int
 leaf:Int
 AX:Int
 kids:List Nat
 Ff:Bool
 below:Bool
variable{p:Nd×nU}
def Nd.cells(p:Nd×nU):List nU:=[nE nM p.1.sym,nE nM p.1.leaf,nE nM p.1.AX,p.2,nI p.1.Ff,nI p.1.below]
def T4:El Tryz.prog 78 84 6 56:=El.of (z:=.agg #[nE nM 0,nE nM 0,nE nM 0,nC nK 0 0,nI false,nI false]) underlying78 mU mU mT
structure Cx(w0 w:nS)(rb:Nat)(T:List (Nd×nU)):Prop where
 box:∃av,Ah w rb 80 #[av]/\w.ownsRow w0 84 6 av T.length (T.flatMap Nd.cells)
 kids:∀p∈T,w.ownsRow w0 3 1 p.2 p.1.kids.length (p.1.kids.map AS)
 lo:w0.heap.size<=rb
 B7:T.length<=100000
def Qa(T:List (Nd×nU))(v:nU):Prop:=∀p∈T,∀b,p.2.ownBlock=nJ b->v.ownBlock≠nJ b
structure Cz(w0 w:nS)(eb tb rb:Nat)(st ns:List Nat)(T:List (Nd×nU))(over:Bool)(steps:Nat)(sv nv:nU):Prop where
 box:Ah w eb 175 #[(tb,0),sv,nv,(rb,0),nI over,steps]
 tree:Cx w0 w rb T
 Ht:w.ownsRow w0 3 1 sv st.length (st.reverse.map AS)
 nodes:w.ownsRow w0 3 1 nv ns.length (ns.reverse.map AS)
 JA:Qa T sv
 JU:Qa T nv
 ap:∀b,sv.ownBlock=nJ b->nv.ownBlock≠nJ b
 lo:w0.heap.size<=eb
 Hr:GH w0 tb
 base:Below w0 w0 w
 lt:tb<w0.heap.size
 B7:st.length<=10000/\ns.length<=10000/\steps<=1000000
variable{w:nS}{rb:Nat}{T:List (Nd×nU)}
def Cx.later{l w':nS}(h:Cx l w rb T)(i:Below w w w'):Cx l w' rb T:=by obtain⟨o,j,t⟩:=h.box;exact⟨⟨o,j.below i j.lt,AV t i⟩,fun p C=>AV (h.kids p C) i,h.lo,h.B7⟩
def Cz.later{t w':nS}{j tb:Nat}{st:List Nat}{o:Bool}{steps:Nat}{p nv:nU}(h:Cz t w j tb rb st l T o steps p nv)(i:Below w w w'):Cz t w' j tb rb st l T o steps p nv:=
 ⟨h.box.below i h.box.lt,h.tree.later i,AV h.Ht i,AV h.nodes i,h.JA,h.JU,h.ap,h.lo,h.Hr,h.base.trans (i.mono h.base.size),h.lt,h.B7⟩
section
variable (g:Gz) (E:List (List It)) (K:List (List (Nat×Nat)))
def Hy(u A:Nat):Option Nat:=if 0<=DS (E.getD u []) A/\DS (E.getD u []) A<(E.length:Int) then nJ (DS (E.getD u []) A).toNat else nK
def Gh(t:Nat):Nat->List Nat->Option It
 | 0,_=>nK
 | _+1,[]=>nK
 | f+1,s::i=>if (Bp g E K s t).1=2 then(if (Bp g E K s t).2<g.R.length/\(s::i).length<=10000 then match (s::i).drop (g.right (Bp g E K s t).2).length with
  | []=>nK
  | u::r=>match Hy E u (g.AX (Bp g E K s t).2).1 with
   | none=>nK
   | some q=>Gh t f (q::u::r)
  else nK) else nJ (Bp g E K s t)
end
def Ce{w':nS}{B l:Nat}{T:List TypeId}{e:TypeId}{sz:Nat}(h:w.ownsRow B e sz v n xs)(I:AI l T w w')(C:e ∉ T):w'.ownsRow B e sz v n xs:=by
 refine⟨h.1,?_⟩;rcases h.2 with P|⟨g,cap,o,rfl,p,i,R⟩
 ·exact .inl P
 ·have J:=(aG.1 i).1
  exact .inr ⟨g,cap,o,rfl,p,(I.block g J (.inr fun U t m j=>by rw[i]at j;cases j;exact C)).trans i,R⟩
def dW{tb:Nat}(h:GH w tb)(C:tb<w.heap.size):() 46 #[(tb,0)] w fun e w'=>∃j rb I,e=nP (.pointer (nJ ⟨j,0,nK⟩))/\Cz w w' j tb rb [0] [] [] false 0 I (nC nK 0 0)/\Below w w w':=by
 have t:=Hd h;clear h;have o:Hid (∀y,() 11 #[] y fun e w'=>e=nP (y,0)/\w'=y.alloc (nO #[nC nK 0 0] 80)):=Hd (fun y=>by
  go_enter func11,ntmps11
  go_wp2;go_ret;exact⟨rfl,rfl⟩)
 go_enter func46,ntmps46
 go_wp2_with (go_at_call 11;refine(o _).mono ?_;rintro e J ⟨rfl,rfl⟩)
 go_ret;have l:Below w w (((w.alloc (nO #[nE nM 0] 3)).alloc (nO #[nC nK 0 0] 80)).alloc (nO #[(tb,0),nC (w,0) 1 1,nC nK 0 0,(w.heap.size+1,0),nI false,nE nM 0] 175)):=((AE w _).alloc mV _).alloc mX _;refine⟨_,_,_,rfl,⟨Ah.newAt mV,⟨⟨_,Ah.alloc (Ah.newAt mV) _,⟨rfl,.inl ⟨rfl,rfl⟩⟩⟩,fun p i=>(by simp at i),mR,mV⟩,MS (XS:=[AS 0]) (Ah.alloc (Ah.alloc (Ah.new w 3 #[nE nM 0]) _) _) (AF _) rfl mT,⟨rfl,.inl ⟨rfl,rfl⟩⟩,fun p i=>(by simp at i),fun p i=>(by simp at i),fun b _ h=>(by cases h),(by omega),t,l,C,mT⟩,l⟩
def Q0{l:nS}(h:Cx l w rb T):() 65 #[(rb,0)] w fun e w'=>e=nP T.length/\w'=w:=by
 obtain⟨p,i,j⟩:=h.box;obtain⟨A,c,rfl⟩:=CS j;have o:=Ah.cell i 0;have C:=i.lt;simp at o;have t:=h.B7;clear h i j;go_enter func65,ntmps65
 go_wp2;go_ret;exact⟨rfl,rfl⟩
def Vb{o:nS}(h:Cx o w rb T)(k:Nat):() 33 #[(rb,0),k] w fun e w'=>e=nP (nI (decide (k<T.length)))/\w'=w:=by
 have i:=Hd (Q0 h);clear h;generalize T.length=n at *;by_cases j:k<n
 ·have l:(k:Int)<(n:Int):=by omega
  go_enter func33,ntmps33
  go_wp2_with (go_at_call 65;refine i.mono ?_;rintro e p ⟨rfl,rfl⟩)
  go_ret;exact⟨by rw[decide_eq_true j];rfl,rfl⟩
 ·have l:¬((k:Int)<(n:Int)):=by omega
  go_enter func33,ntmps33
  go_wp2_with (go_at_call 65;refine i.mono ?_;rintro e p ⟨rfl,rfl⟩)
  go_ret;exact⟨by rw[decide_eq_false j];rfl,rfl⟩
def Cx.push{j W i:nS}(h:Cx j w rb T)(J:Below w w W)(U:W.ownsRow j 3 1 p.2 p.1.kids.length (p.1.kids.map AS)){A:Option Addr}(r1:i.ownsRow j 84 6 (nC A (T.length+1) c) (T.length+1) (T.flatMap Nd.cells++Nd.cells p))(t:AI j [84] W i)(R:T.length+1<=100000) :
  Cx j (i.setCell (rb,0) (nC A (T.length+1) c)) rb (T++[p])/\AI j [84,80] W (i.setCell (rb,0) (nC A (T.length+1) c)):=by
 obtain⟨P,C,h2⟩:=h.box;have I:Ah i rb 80 #[P]:=t.Ap (C.below J C.lt) (.inr mT);have o:AI j [80] i (i.setCell (rb,0) (nC A (T.length+1) c)):=(AI.refl _ _ i).EF I h.lo mV 0 _;refine⟨⟨⟨nC A (T.length+1) c,by simpa using I.AW 0 (nC A (T.length+1) c),by simpa [List.flatMap_append] using Ce r1 o mT⟩,fun q l=>?_,h.lo,by simpa using R⟩,(t.mono (AF _) mV).trans (o.mono (AF _) mV)⟩;rcases mA.1 l with l|l
 ·exact Ce (Ce (AV (h.kids q l) J) t mT) o mT
 ·rw[mS.1 l]
  exact Ce (Ce U t mT) o mT
def TX{o:nS}(h:Cx o w rb T)(hw:o.heap.size<=w.heap.size){s l:Int}(R:T.length<100000) :
  () 12 #[(rb,0),s,l] w fun e w'=>e=nP T.length/\Cx o w' rb (T++[(⟨s,l,-1,[],true,false⟩,nC nK 0 0)])/\AI o [84,80] w w':=by
 have HT:=Hd h;obtain⟨av,j,I⟩:=h.box;obtain⟨A,c,rfl⟩:=CS I;have x0:=Ah.cell j 0;have x1:=Ah.frozen j 0;have xl:=j.lt;simp at x0;have P:=Hd I;have i:=Hd j;obtain⟨n,J⟩:∃n,T.length=n:=⟨_,rfl⟩
 rw[J]at x0 P i R ⊢;have t:=Hd J;clear h j I J;go_enter func12,ntmps12
 go_wp2_with (
   at_builtin;refine Du T4 (.tmp 13) (.tmp 18) rfl rfl (base:=o.heap.size) (n:=n) (m:=1) (N:=n+1) (v:=nC A n c) (src:=nC (w,0) 1 1) (xs:=T.flatMap Nd.cells) (news:=Nd.cells (⟨s,l,-1,[],true,false⟩,nC nK 0 0)) rfl rfl (AV P (AE w _)) (Ba.Ap (c:=1) (Ah.new w 84 _) rfl (by simp[Nd.cells,Value.oneCell'])) rfl mW mR mX ?_
   intro A2 c2 w2 U p r3;have C:=Hd (HT.push (AE w _) (p:=(⟨s,l,-1,[],true,false⟩,nC nK 0 0)) ⟨rfl,.inl ⟨rfl,rfl⟩⟩ (A:=A2) (c:=c2) (by rw[t.out];exact U) p (by rw[t.out];exact R));have y0:nQ w2 (rb,0)=nJ (nC A n c):=Ah.cell (p.Ap (i.below (AE w _) i.lt) (.inr mT)) 0;have y1:=Ah.frozen (p.Ap (i.below (AE w _) i.lt) (.inr mT)) 0;rw[t.out]at C;clear U p r3)
 go_ret;exact⟨nB,C.1,(AI.AJ (AE w _)).trans C.2⟩
def bU(l:∀y,Below w w y->Ba y (nC (nJ ad) n c) n 1 xs)(T:n<=1048576) :
  () 35 #[nC (nJ ad) n c] w fun e w'=>∃A j,e=nP (nC A n j)/\w'.ownsRow w 3 1 (nC A n j) n xs/\Below w w w':=by
 have I:=Hd l;have J:Hid (∀y:nS,y=w.alloc (nO #[] 3)->y.ownsRow w 3 1 (nC (w,0) 0 0) 0 []):=Hd (fun y P=>by rw[P];exact NO (W:=w) rfl (AF _) mT rfl);have U:∀(y:nS) (ad:Addr) (n c:Nat),(binOp BinOp.eql 34 (nC (nJ ad) n c) (nC nK 0 0)).run Tryz.prog y=.ok (nI false) y:=fun _ _ _ _=>by kernel_rfl
 clear l;go_enter func35,ntmps35
 go_wp2_with (
   at_builtin;refine Du GW (.tmp 5) (.tmp 6) rfl rfl (base:=w.heap.size) (n:=0) (m:=n) (N:=n) (xs:=[]) (news:=xs) rfl rfl (J _ rfl) (I _ (DE w _)) mR mW mR mV ?_
   intro C c2 t o p R;have i:Hid (t.ownsRow w 3 1 (nC C n c2) n xs/\Below w w t):=Hd ⟨by simpa using o,(DE w _).trans (p.below mV)⟩;clear o p R)
 go_ret;exact⟨_,_,rfl,i.1,i.2⟩
def Bv.src(h:Bv w (nC (nJ ad) n c) l)(t:l.length=n):Ba w (nC (nJ ad) n c) n 1 (l.map AS):=by
 obtain⟨⟨A,I,e,p⟩,-,-⟩:=h;refine⟨fun u i=>?_,.inr ⟨ad,c,rfl,by rw[lM,t,Nat.mul_one],fun j u i=>?_⟩⟩
 ·obtain⟨x,-,rfl⟩:=List.mem_map.1 i
  rfl
 ·rw[pG]at i
  obtain⟨x,C,rfl⟩:=Option.map_eq_some_iff.1 i;simp only[Value.slice.injEq]at e;obtain⟨rfl,-,-⟩:=e;obtain⟨b,off,o,-,h⟩:=p j x C;cases o
  rw[show ((b,off):Addr).add j=⟨b,off+j,nK⟩ by unfold Addr.add;split<;>simp_all];exact h
def IN(ks:List Nat)(i:nU):Prop:=ks=[]->i=nC nK 0 0\/∃j c,i=nC (nJ j) 0 c
def Tb{i:nU}(h:Bv w i ks)(T:ks.length<=100000)(h0:IN ks i) :
  () 35 #[i] w fun e w'=>∃A c,e=nP (nC A ks.length c)/\w'.ownsRow w 3 1 (nC A ks.length c) ks.length (ks.map AS)/\Below w w w':=by
 have I:(ks=[]/\i=nC nK 0 0)\/∃j c,i=nC (nJ j) ks.length c:=by
  by_cases o:ks=[]
  ·rcases h0 o with e|⟨j,c,e⟩
   ·exact .inl ⟨o,e⟩
   ·exact .inr ⟨j,c,by rw[e,o];rfl⟩
  ·obtain⟨⟨A,c,e,C⟩,-,-⟩:=h
   obtain⟨b,off,rfl,-⟩:=C 0 (ks[0]'(by cases ks with|nil=>exact absurd rfl o|cons a l=>exact Nat.succ_pos _)) (eG _);exact .inr ⟨_,c,e⟩
 rcases I with⟨rfl,rfl⟩|⟨j,c,rfl⟩
 ·clear h h0
  have U:∀y:nS,(binOp BinOp.eql 34 (nC nK 0 0) (nC nK 0 0)).run Tryz.prog y=.ok (nI true) y:=fun _=>by kernel_rfl
  go_enter func35,ntmps35
  go_wp2;go_ret;exact⟨nK,0,rfl,⟨rfl,.inl ⟨rfl,rfl⟩⟩,Below.refl _ _⟩
 ·exact(bU (xs:=ks.map AS) (fun y R=>Bv.src (BD.later h R) rfl) mR).mono fun e w' ⟨A,p,J,P,t⟩=>⟨A,p,J,P,t⟩
theorem IN.some{ks:List Nat}{ad:Addr}{n c:Nat}(i:ks.length=n):IN ks (nC (nJ ad) n c):=fun e=>.inr ⟨ad,c,by subst e;cases i;rfl⟩
def Nd.mark(p:Nd×nU):Nd×nU:=({p.1 with below:=true},p.2)
def Ep(T:List (Nd×nU))(ks:List Nat):List (Nd×nU):=ks.foldl (fun T k=>T.modify k Nd.mark) T
theorem Kl(T:List (Nd×nU))(ks:List Nat):(Ep T ks).length=T.length:=by
 induction ks generalizing T with
 | nil=>rfl
 | cons k ks i=>rw[Ep,List.foldl_cons];exact(i _).trans mV
def eZ(T:List (Nd×nU))(ks:List Nat)(k:Nat):Ep T (ks++[k])=(Ep T ks).modify k Nd.mark:=by simp[Ep]
theorem Sl:∀(T:List (Nd×nU)) (k:Nat),k<T.length->(T.flatMap Nd.cells).set (k*6+5) (nI true)=(T.modify k Nd.mark).flatMap Nd.cells
 | [],k,h=>by simp at h
 | p::T,0,_=>by simp[Nd.cells,Nd.mark]
 | p::T,k+1,h=>by have:=Sl T k (by simpa using h);rw[show (k+1)*6+5=k*6+5+6 by omega,List.flatMap_cons,List.modify_succ_cons,List.flatMap_cons,<-this];simp[Nd.cells]
def Ns{k:Nat}(h:T[k]?=nJ p){j:Nat}(i:j<6):(T.flatMap Nd.cells)[k*6+j]?=(Nd.cells p)[j]?:=by obtain⟨l,rfl⟩:=sG.1 h;exact CR Nd.cells 6 (fun _=>rfl) T k j l i
theorem PT(h:p∈Ep T ks):∃q∈T,p.2=q.2/\p.1.kids=q.1.kids:=by
 induction ks generalizing T with
 | nil=>exact⟨p,h,rfl,rfl⟩
 | cons k ks J=>
  rw[Ep,List.foldl_cons]at h;obtain⟨q,I,o,t⟩:=J h;obtain⟨i,j⟩:=List.getElem?_of_mem I;rw[List.getElem?_modify]at j;cases l:T[i]? with
  | none=>rw[l]at j;cases j
  | some r=>
   rw[l]at j;have C:=mG l;simp only[Option.map_eq_map,Option.map_some,Option.some.injEq]at j;split at j
   ·exact⟨r,C,by rw[o,<-j];rfl,by rw[t,<-j];rfl⟩
   ·exact⟨r,C,by rw[o,<-j],by rw[t,<-j]⟩
def LP(j w:nS)(rb:Nat)(s r:Int)(T:List (Nd×nU))(ks:List Nat)(e:Ending)(w':nS):Prop:=
 e=nP T.length/\∃i,Cx j w' rb (Ep T ks++[(⟨s,-1,r,ks,false,false⟩,i)])/\AI j [84,80] w w'/\∀b,i.ownBlock=nJ b->w.heap.size<=b
def Qf{P:nS}{s r:Int}(h:Cx P w rb T)(hw:P.heap.size<=w.heap.size){Ak:Option Addr}(ad:∀y,AI P [84,80] w y->Bv y (nC Ak n c) ks)(aj:IN ks (nC Ak n c))(hn:ks.length=n)(aq:ks.Nodup)(hT:∀k∈ks,∃p,T[k]?=nJ p/\p.1.below=false)(hf:T.length<100000)(bb:n<=10000) :
  () 13 #[(rb,0),s,r,nC Ak n c] w (LP P w rb s r T ks):=by
 have HT:=Hd hT;have ah:=Hd ad;have ax:=Hd aj;have aa:=Hd h;have af:=Hd (fun k=>Vb h k);obtain⟨av,I,h2⟩:=h.box;obtain⟨A,J,rfl⟩:=CS h2;have ab:=ad w (AI.refl _ _ w);have b9:=Hd ab;obtain⟨⟨Ad,cd,e,a4⟩,-,al⟩:=id ab;simp only[Value.slice.injEq]at e;obtain⟨rfl,-,rfl⟩:=e;have be:n<=c:=by have:=(al _ _ _ rfl).1;omega
 have bf:(n:Int)<=(c:Int):=by omega
 have HC:=Hd a4;have ay:=Hd aq;obtain⟨m,hm⟩:∃m,T.length=m:=⟨_,rfl⟩
 rw[hm]at I h2 af hf;have HM:=Hd hm;have HL:=Hd hn;have HX:=Hd I;have HR:=Hd h2;have x0:=Ah.cell I 0;have xl:=I.lt;simp at x0;unfold LP;rw[hm];clear h aj ad aq hT ab a4 al I h2 hm hn;go_enter func13,ntmps13
 go_wp2_with fail
 go_loopw [17] (fun ii wr=>∃i:Nat,i<=n/\ii=nE nM i/\wr=w) (fun ii _=>n-(intOf ii).toNat)
 case atStart=>exact⟨0,A0 _,rfl,rfl⟩
 case round=>
  obtain⟨i,hi,rfl,ar⟩:=hrel;have b8:=ar.symm;subst b8;clear ar;by_cases b3:i<n
  ·obtain⟨k,R⟩:∃k,ks[i]?=nJ k:=⟨_,eG (by rw[HL.out];exact b3)⟩
   obtain⟨b,off,hA,b1,d0⟩:=HC i k R;cases hA
   unfold AS at d0;obtain⟨p,U,ae⟩:=HT k (mG R);have a8:k<m:=by rw[<-HM.out];exact(sG.1 U).1
   obtain⟨o,ct,hA⟩:∃o,∃_:o<w.heap.size,A=nJ ⟨o,0,nK⟩:=by
    rcases Bg HR.out with⟨_,h0⟩|⟨o,_,e,_,I,_⟩
    ·omega
    ·cases e;exact⟨o,I,rfl⟩
   subst hA;have t0:nQ w ⟨o,k*6+5,nK⟩=nJ (nI false):=by rw[Bb HR _ mR,Ns U mT];simp[Nd.cells,ae]
   have HI:=Hd (af k);rw[decide_eq_true a8]at HI;have aw:Hid (() 34 #[nC (nJ ⟨b,off,nK⟩) i c,nE nM k] w fun e w'=>e=nP (nI false)/\w'=w):=Hd (by
    have b7:Bv w (nC (nJ ⟨b,off,nK⟩) i c) (ks.take i):=by
     have a1:(ks.take i).length=i:=by rw[List.length_take,HL.out];omega
     refine⟨⟨_,c,by rw[a1],fun j x hx=>?_⟩,by rw[a1];omega,fun A' n' c' e=>?_⟩
     ·rw[List.getElem?_take]at hx
      split at hx
      ·exact HC j x hx
      ·cases hx
     ·cases e
      exact⟨mR,fun e=>by cases e⟩
    have h:=Mt b7 (by rw[List.length_take];omega) k;have b6:decide (k∈ks.take i)=false:=decide_eq_false fun b5=>by
     obtain⟨j,hj⟩:=List.getElem?_of_mem b5;rw[List.getElem?_take]at hj;split at hj
     ·rename_i an
      obtain⟨q1,q2⟩:=sG.1 hj;obtain⟨q3,q4⟩:=sG.1 R;exact List.pairwise_iff_getElem.1 ay j i q1 q3 an (q2.trans q4.symm)
     ·cases hj
    rwa [b6]at h)
   have bd:(i:Int)<(n:Int):=by omega
   have b2:(k:Int)<(m:Int):=by omega
   have bc:(i:Int)<=(c:Int):=by omega
   clear R U ae;go_wp2_with (first
    | (go_at_call 33;refine HI.mono ?_;rintro e l ⟨rfl,rfl⟩)
    | (go_at_call 34;refine aw.mono ?_;rintro e l ⟨rfl,rfl⟩))
   go_roundw
   case rel=>exact⟨i+1,mR,mY,trivial⟩
   case measure=>simp[intOf];omega
  ·obtain rfl:i=n:=by omega
   go_wp2_with fail
   clear x0;go_loopw [46] (fun jj wr=>∃j:Nat,j<=i/\jj=nE nM j/\Hid (Ah wr rb 80 #[nC A m J]/\wr.ownsRow P 84 6 (nC A m J) m ((Ep T (ks.take j)).flatMap Nd.cells)/\AI P [84,80] w wr)) (fun jj _=>i-(intOf jj).toNat)
   case atStart=>exact⟨0,A0 _,rfl,Hd ⟨HX,HR,AI.refl _ _ _⟩⟩
   case round=>
    obtain⟨j,hj,rfl,t⟩:=hrel;rename nS=>l
    have x0:nQ l (rb,0)=nJ (nC A m J):=Ah.cell t.1 0;have xl:=t.1.lt;by_cases b4:j<i
    ·obtain⟨k,R⟩:∃k,ks[j]?=nJ k:=⟨_,eG (by rw[HL.out];exact b4)⟩
     obtain⟨⟨Ad,cd,e,a4⟩,-,-⟩:=ah l t.2.2;simp only[Value.slice.injEq]at e;obtain⟨rfl,-,rfl⟩:=e;obtain⟨b,off,hA,b1,d0⟩:=a4 j k R;cases hA
     unfold AS at d0;obtain⟨p,U,ae⟩:=HT k (mG R);have a8:k<m:=by rw[<-HM.out];exact(sG.1 U).1
     have a2:=t.2.1;obtain⟨o,ct,hA⟩:∃o,∃_:o<l.heap.size/\∃ai,Ah l o 84 ai,A=nJ ⟨o,0,nK⟩:=by
      rcases Bg a2 with⟨_,h0⟩|⟨o,_,e,_,I,_,_,a7⟩
      ·omega
      ·cases e;exact⟨o,⟨I,a7⟩,rfl⟩
     subst hA;have a1:(Ep T (ks.take j)).length=m:=by rw[Kl,HM.out]
     obtain⟨q,hq⟩:∃q,(Ep T (ks.take j))[k]?=nJ q:=⟨_,eG (by rw[a1];exact a8)⟩
     have t0:nQ l ⟨o,k*6+5,nK⟩=nJ (nI q.1.below):=by rw[Bb a2 _ mR,Ns hq mT];rfl
     have t1:=GU a2 (k*6+5);have tl:=ct.1;have b0:Hid (Ah (l.setCell ⟨o,k*6+5,nK⟩ (nI true)) rb 80 #[nC (nJ ⟨o,0,nK⟩) m J]/\(l.setCell ⟨o,k*6+5,nK⟩ (nI true)).ownsRow P 84 6 (nC (nJ ⟨o,0,nK⟩) m J) m ((Ep T (ks.take (j+1))).flatMap Nd.cells)/\AI P [84,80] w (l.setCell ⟨o,k*6+5,nK⟩ (nI true))):=Hd (by
      obtain⟨_,ai,a7⟩:=ct;refine⟨t.1.BC (p:=⟨o,k*6+5,nK⟩) (Ah.Bh t.1 a7 mT) _,?_,t.2.2.EF a7 ?_ mV _ _⟩
      ·rw[List.take_add_one,R,Option.toList_some,eZ,<-Sl _ k (by rw[a1];exact a8)]
       exact Gl a2 (k*6+5) mR (nI true)
      ·rcases Bg a2 with⟨_,h0⟩|⟨ba,_,e,I,_⟩
       ·omega
       ·cases e;exact I)
     have an:(j:Int)<(i:Int):=by omega
     have b2:(k:Int)<(m:Int):=by omega
     clear a2 a4 R U hq a1 ct;go_wp2_with fail
     go_roundw
     case rel=>exact⟨j+1,mR,mY,b0⟩
     case measure=>simp[intOf];omega
    ·obtain rfl:j=i:=by omega
     rw[Dd (by rw[HL.out];exact AF _)]at t;have az:Hid (Cx P l rb (Ep T ks)):=Hd ⟨⟨_,t.1,by rw[Kl,HM.out];exact t.2.1⟩,fun p U=>by obtain⟨q,hq,e1,e2⟩:=PT U;rw[e1,e2];exact Ce (aa.kids q hq) t.2.2 mT,aa.lo,by rw[Kl];exact aa.B7⟩
     have au:Hid (() 35 #[nC Ak j c] l.drew fun e w'=>∃A c',e=nP (nC A j c')/\w'.ownsRow l 3 1 (nC A j c') j (ks.map AS)/\Below l l w'):=Hd (by have hc:=Tb (w:=l.drew) (ah l.drew (t.2.2.trans (AI.AJ ((Below.refl _ l).drew)))) (by rw[HL.out];omega) ax;rw[HL.out]at hc;refine hc.mono ?_;rintro e w' ⟨A',c',rfl,I,h2⟩;exact⟨A',c',rfl,I,((Below.refl _ l).drew).trans h2⟩)
     go_upto_region 14 with fail
     have a9:Hid (∀y,Below l l y->nQ y (rb,0)=nJ (nC A m J)):=Hd (fun y hy=>(hy.cell (p:=(rb,0)) xl).trans x0);refine CO 15 (fun v=>nQ v (rb,0)=nJ (nC A m J)) mU ?_;have a3:(fun v:nS=>nQ v (rb,0)=nJ (nC A m J)) l.drew:=x0;refine FE [0,1,2,3,4,5,6,7] a3 ?_;refine Be 8 mU rfl rfl (fun K C=>?_);go_simp;refine au.mono ?_;rintro e w2 ⟨Ak,ck,rfl,ao,ak⟩;have a5:=Hd ak;have ag:=Hd ao;clear ao ak a3;refine C _ _ (fun _=>a9 w2 a5) ?_;clear C K;have a3:(fun v:nS=>nQ v (rb,0)=nJ (nC A m J)) w2:=a9 w2 a5
     refine FE [9,10] a3 ?_;clear a3;refine Be 11 mU rfl rfl (fun K C=>?_);go_simp;have a0:=Hd (a5.alloc a5.size (nO #[s,nE nM (-1),r,nC Ak j ck,nI false,nI false] 84));refine C _ _ (fun _=>a9 _ a0) ?_;clear C K;refine Co 12 mU rfl rfl rfl (fun K C=>?_);refine Dt T4 (.tmp 62) (.tmp 69) rfl (base:=P.heap.size) (n:=m) (m:=1) (N:=m+1) (v:=nC A m J) (src:=nC (w2,0) 1 1) (xs:=(Ep T ks).flatMap Nd.cells) (news:=Nd.cells (⟨s,-1,r,ks,false,false⟩,nC Ak j ck)) rfl rfl (AV t.2.1 a0) (Ba.Ap (c:=1) (Ah.new w2 84 _) rfl (by simp[Nd.cells,Value.oneCell'])) rfl mW mR (by have:=a0.size;have:=t.2.2.size;omega) ?_
     intro A4 c4 w4 q1 q2 q3;have HP:=Hd (az.push a0 (p:=(⟨s,-1,r,ks,false,false⟩,nC Ak j ck)) (DW (AV (by rw[HL.out];exact ag) (AE w2 _)) (by have:=t.2.2.size;omega)) (A:=A4) (c:=c4) (by rw[Kl,HM.out];exact q1) q2 (by rw[Kl,HM.out];omega));rw[Kl,HM.out]at HP;have a6:=q2.Ap (t.1.below a0 t.1.lt) (.inr mT);have y0:nQ w4 (rb,0)=nJ (nC A m J):=Ah.cell a6 0;have y1:=Ah.frozen a6 0;have yl:=a6.lt;clear q1 q2 q3 a6;refine C _ _ (fun _=>y0) ?_;clear C K;simp only[AD,AA];refine Be 13 mU rfl rfl (fun K C=>?_)
     go_simp;refine C _ _ (fun _=>y0) ?_;clear C K;refine Be 14 mU rfl rfl (fun K C=>?_);go_simp;refine C _ _ (fun _=>y0) ?_;clear C K;refine Be 15 mU rfl rfl (fun K C=>?_);go_simp;refine C _ _ (fun h=>absurd rfl h) ?_;clear C K;refine CI mU ?_ _;go_wp2_with fail
     go_ret;refine⟨rfl,_,HP.1,t.2.2.trans ((AI.AJ a0).trans HP.2),fun b hb=>?_⟩;have I:=(BR ag b hb).2;have h2:=t.2.2.size;omega
