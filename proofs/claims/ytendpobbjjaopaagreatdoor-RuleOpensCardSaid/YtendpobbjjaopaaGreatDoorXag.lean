/- . -/
import Derived.Test.YtendpobbjjaopaaGreatDoorXaf
import Derived.Deep.RegionHeld3
import Derived.Laws.StructEq
import Derived.Lib.SliceRun
import Derived.Test.YtendpobbjjaopaaGreatDoorXaa
import Derived.Test.YtendpobbjjaopaaGreatDoorXnm
set_option linter.all false
set_option maxRecDepth 100000
set_option maxHeartbeats 16000000
namespace Go.Proofs.YtendpobbjjaopaaGreatDoor
open Go.RowKit
open Value renaming slice→oG,int→oH
open Option renaming some→oM,none→oN
open IntKind renaming i64→oO
open Obj renaming cells→oP
open Ending renaming returned→oQ
open World renaming cell?→oT
open Go renaming World→oU,Value→oV
variable{w':oU}{B c n:Nat}{r:List It}
def Bg(x:It):List oV:=[oH oO x.1,oH oO x.2]
def CN(x:It):oV:=.agg #[x.1,x.2]
namespace Gz
def next(g:Gz)(x:It):Nat:=(g.right x.1).getD x.2 0
def En(g:Gz)(s:Nat):List It:=(g.CJ s).map fun k=>(k,0)
end Gz
structure CQ(w:oU)(v:oV)(l:List It):Prop where
 F5:∃A c,v=oG A l.length c/\∀k x,l[k]?=oM x->∃b off,A=oM ⟨b,off,oN⟩/\b<w.heap.size/\oT w ⟨b,off+k*2,oN⟩=oM (oH oO x.1)/\oT w ⟨b,off+k*2+1,oN⟩=oM (oH oO x.2)
 short:l.length<=4611686018427387904
 room:∀A n c,v=oG A n c->n<=c/\(A=oN->c=0)
def CQ.later{w:oU}{v:oV}{l:List It}(h:CQ w v l)(i:Below w w w'):CQ w' v l:=by obtain⟨⟨A,c,P,C⟩,J,I⟩:=h;refine⟨⟨A,c,P,fun k x R=>?_⟩,J,I⟩;obtain⟨b,off,t,j,o,p⟩:=C k x R;exact⟨b,off,t,A0 j i.size,(i.cell (p:=⟨b,off+k*2,oN⟩) j).trans o,(i.cell (p:=⟨b,off+k*2+1,oN⟩) j).trans p⟩
def CQ.own{w:oU}{e:TypeId}{v:oV}{l:List It}(h:w.ownsRow B e 2 v l.length (l.flatMap Bg))(p:l.length<=4611686018427387904):CQ w v l:=by
 rcases Bj h with⟨rfl,h0⟩|⟨b,c,rfl,J,t,C,P,_⟩
 ·exact⟨⟨oN,0,by rw[h0],fun k x i=>by have:=(sG.1 i).1;omega⟩,p,fun A n c e=>by cases e;exact⟨Ay _,fun _=>rfl⟩⟩
 ·refine⟨⟨_,c,rfl,fun k x i=>⟨b,0,rfl,t,?_,?_⟩⟩,p,fun A n I e=>by cases e;exact⟨C,fun e=>by cases e⟩⟩
  ·obtain⟨j,o⟩:=sG.1 i
   have:=CP Bg 2 (fun _=>rfl) l k 0 j nX;rw[o,Nat.add_zero]at this;rw[Nat.zero_add,Bh h (k*2) nX,this];rfl
  ·obtain⟨j,o⟩:=sG.1 i
   have:=CP Bg 2 (fun _=>rfl) l k 1 j nX;rw[o]at this;rw[Nat.zero_add,Bh h (k*2+1) nX,this];rfl
structure BG(w:oU)(bb:Nat)(v:oV)(g:Gz):Prop where
 gn:GN w v g
 cell:∀j,j<4->oT w ⟨bb,j,oN⟩=v.cells[j]?
variable{g:Gz}
def Pr:El Tryz.prog 116 220 2 16:=El.of (z:=.agg #[oH oO 0,oH oO 0]) Tryz.underlying116 nZ rfl nY
def mR(w:oU)(x y:It)(i:x.1<=100000/\x.2<=100000)(j:y.1<=100000/\y.2<=100000):() 212 #[CN x,CN y] w fun e w'=>e=oQ (oH oO (if x.1=y.1 then(x.2:Int)-y.2 else(x.1:Int)-y.1))/\w'=(w.alloc (oP #[x.1,x.2] 220)).alloc (oP #[y.1,y.2] 220):=by
 obtain⟨a,b⟩:=x;obtain⟨c,d⟩:=y;simp only at i j;unfold CN;simp only;by_cases h:a=c
 ·rw[if_pos h]
  subst h;go_enter Tryz.func212,Tryz.ntmps212
  go_wp2;go_ret;exact⟨oF,rfl⟩
 ·rw[if_neg h]
  have l:((a:Int) != (c:Int))=true:=by rw[bne_iff_ne];omega
  go_enter Tryz.func212,Tryz.ntmps212
  go_wp2;go_ret;exact⟨oF,rfl⟩
def XJ{w:oU}{v:oV}(h:GN w v g):() 177 #[v] w fun e w'=>e=oQ (.bool true)/\Below w w w':=by
 have l:=Hd (fun y (p:Below w w y)=>Pq (h.later p));have J:=Hd (Ah.new w 47 v.cells);obtain⟨I,T,t,P,C,R,rfl,o,U⟩:=h.open_;clear h o;go_enter Tryz.func177,Tryz.ntmps177
 go_wp2_with (go_at_call 124;refine(l _ (AG _ _)).mono ?_;rintro e w' ⟨rfl,i⟩;have j:=Hd (Fy i);clear i)
 go_ret;exact⟨rfl,j⟩
def Yh{w:oU}{v:oV}(h:GN w v g):() 127 #[v] w fun e w'=>∃A c,e=oQ (oG A 1 c)/\w'.ownsRow w 220 2 (oG A 1 c) 1 (Bg (g.R.length,0))/\Below w w w':=by
 have C:=Hd (fun y (hy:Below w w y)=>XJ (h.later hy));obtain⟨t,R,o,J,p,P,rfl,U,a0⟩:=h.open_;have l:=Hd (Ah.new w 47 #[oG t g.nt R,oG o g.nn J,oG p g.R.length P,g.s]);clear h U;go_enter Tryz.func127,Tryz.ntmps127
 go_wp2_with (go_at_call 177;refine(C _ (AG _ _)).mono ?_;rintro e w1 ⟨rfl,j⟩;have i:=Hd (Fy j);have I:=Hd (l.below j l.lt);have T:=I.cell 2;simp at T;clear j)
 go_ret;refine⟨_,_,rfl,?_,i.alloc i.size _⟩;refine⟨rfl,.inr ⟨w1.heap.size,1,#[g.R.length,oH oO 0],rfl,i.size,Ah.newAt rfl,oA,nY,rfl,rfl⟩⟩
def BG.later{w:oU}{i:Nat}{v:oV}(h:BG w i v g)(l:Below w w w'):BG w' i v g:=by
 refine⟨h.gn.later l,fun j p=>?_⟩;have o:=h.cell j p;obtain⟨J,T,C,P,I,R,rfl,-⟩:=h.gn.open_;have t:i<w.heap.size:=by have h0:=h.cell 0 nX;exact World.block_lt_of_cell? w _ h0
 exact(l.cell (p:=⟨i,j,oN⟩) t).trans o
structure FE(w:oU)(v:oV)(V:List (oV×oV))(L E:List (List It)):Prop where
 F5:∃A c,v=oG A V.length c/\V.length<=c/\∀(k:Nat) (x:oV×oV),V[k]?=oM x->∃b off,A=oM ⟨b,off,oN⟩/\b<w.heap.size/\oT w ⟨b,off+k*2,oN⟩=oM x.1/\oT w ⟨b,off+k*2+1,oN⟩=oM x.2
 len:L.length=V.length/\E.length=V.length
 items:∀(k:Nat) (x:oV×oV) (l:List It),V[k]?=oM x->L[k]?=oM l->CQ w x.1 l
 trans:∀(k:Nat) (x:oV×oV) (l:List It),V[k]?=oM x->E[k]?=oM l->CQ w x.2 l
 small:V.length<=100000
variable{w:oU}{v:oV}{V:List (oV×oV)}{k:Nat}{l:List It}{x:It}
def FE.later{L E:List (List It)}(h:FE w v V L E)(i:Below w w w'):FE w' v V L E:=by obtain⟨⟨A,c,T,h0,R⟩,t,C,I,J⟩:=h;refine⟨⟨A,c,T,h0,fun k x U=>?_⟩,t,fun k x l a b=>(C k x l a b).later i,fun k x l a b=>(I k x l a b).later i,J⟩;obtain⟨b,off,P,j,o,p⟩:=R k x U;exact⟨b,off,P,A0 j i.size,(i.cell (p:=⟨b,off+k*2,oN⟩) j).trans o,(i.cell (p:=⟨b,off+k*2+1,oN⟩) j).trans p⟩
def DE(t:List It)(s:Nat):Int:=match t.find? (fun x=>x.1==s) with|some x=>(x.2:Int)|none => -1
def mF(x:It)(t:List It)(s:Nat):DE (x::t) s=if x.1=s then(x.2:Int) else DE t s:=by
 unfold DE;rw[List.find?_cons];by_cases h:x.1=s
 ·rw[if_pos h,show (x.1==s)=true by simp[h]]
 ·rw[if_neg h,show (x.1==s)=false by simp[h]]
def Qd{L E:List (List It)}(h:FE w v V L E){i s:Nat}(hi:i<V.length) :
  () 61 #[v,i,s] w fun e w'=>e=oQ (oH oO (DE (E.getD i []) s))/\Below w w w':=by
 obtain⟨⟨A,c,rfl,a9,hc⟩,⟨a3,a4⟩,h2,h3,h4⟩:=h;obtain⟨x,R⟩:∃x,V[i]?=oM x:=⟨_,eG hi⟩
 obtain⟨t,P⟩:∃t,E[i]?=oM t:=⟨_,eG nX⟩
 obtain⟨b,off,rfl,hb,c0,c1⟩:=hc i x R;obtain⟨⟨At,ct,a8,a1⟩,ab,a7⟩:=h3 i x t R P;have e:E.getD i []=t:=by rw[dG,P];rfl
 rw[e];rw[a8]at c1;have HC:=Hd a1;have aa:(i:Int)<(V.length:Int):=by omega
 obtain⟨r,J⟩:∃r,DE t s=r:=⟨_,rfl⟩
 rw[J];have HR:=Hd J;clear a1 a7 h2 h3 R P hc J e a3 a4;generalize V.length=n at *;go_enter Tryz.func61,Tryz.ntmps61
 go_wp2_with fail
 go_loopw [23] (fun ii wr=>∃k:Nat,k<=t.length/\ii=oH oO k/\Hid (Below w w wr)/\Hid (DE (t.drop k) s=r)) (fun ii _=>t.length-(intOf ii).toNat)
 case atStart=>exact⟨0,AX _,rfl,Hd (Below.refl _ _),HR⟩
 case round=>
  obtain⟨k,hk,rfl,l,HG⟩:=hrel;by_cases a5:k<t.length
  ·obtain⟨⟨U,tt⟩,T⟩:∃x,t[k]?=oM x:=⟨_,eG a5⟩
   obtain⟨b2,a2,rfl,a0,C,I⟩:=HC k _ T;have C:=(l.cell (p:=⟨b2,a2+k*2,oN⟩) a0).trans C;have I:=(l.cell (p:=⟨b2,a2+k*2+1,oN⟩) a0).trans I;have j:=HG.out;rw[I6 T,mF]at j;simp only at j C I;clear T;by_cases p:U=s
   ·rw[if_pos p]at j
    have a6:((U:Int)==(s:Int))=true:=by rw[p];simp
    have o:=Hd j;clear j p;go_wp2_with fail
    go_ret;exact⟨by rw[<-o.out];rfl,l.trans ((AG _ _).mono l.size)⟩
   ·rw[if_neg p]at j
    have a6:((U:Int)==(s:Int))=false:=by rw[bN];omega
    have o:=Hd j;clear j p;go_wp2_with fail
    go_roundw
    case rel=>exact⟨k+1,nX,oD,Hd (l.trans ((AG _ _).mono l.size)),o⟩
    case measure=>simp[intOf];omega
  ·obtain rfl:k=t.length:=by omega
   have j:=HG.out;rw[List.drop_length]at j;have o:Hid (-1=r):=Hd j;clear j;go_wp2_with fail
   go_ret;exact⟨by rw[<-o.out];rfl,l⟩
def RH{p:Addr}{u:oV}{b o:Nat}(h:b≠p.block):(w.setCell p u).cell? (b,o)=oT w (b,o):=World.cell?_of_block (Below.heap_setCell _ _ _ _ h)
def N4{j:Nat}(h:BG w j v g){d:Nat}(hk:k<=g.R.length)(hd:d<=100000):() 175 #[(j,0),.agg #[k,d]] w fun e w'=>e=oQ (oH oO (g.next (k,d):Nat))/\Below w w w':=by
 have HR:Hid (∀y,Below w w y->() 59 #[v,k] y fun e w'=>∃A c,e=oQ (.tuple #[.agg #[oH oO ((g.Br k).1:Nat),oG A (g.right k).length c],.bool true])/\BF w' (oG A (g.right k).length c) (g.right k)/\Below y y w'):=Hd (fun y hy=>by refine(lZ (h.gn.later hy) hk).mono ?_;rintro e w' ⟨rv,he,p,hb⟩;obtain⟨⟨A,c,rfl,-⟩,-,-⟩:=id p;exact⟨A,c,he,p,hb⟩)
 have ah:=Hd h;obtain⟨AT,cT,AN,cN,AR,cR,rfl,hc,aj⟩:=h.gn.open_;obtain⟨z0,z1,z2,z3⟩:oT w (j,0)=oM (oG AT g.nt cT)/\oT w (j,1)=oM (oG AN g.nn cN)/\oT w (j,2)=oM (oG AR g.R.length cR)/\oT w (j,3)=oM (oH oO g.s):=⟨h.cell 0 nX,h.cell 1 nX,h.cell 2 nX,h.cell 3 nX⟩
 have a0:j<w.heap.size:=World.block_lt_of_cell? w _ z0;have U:=Hd (Ah.new w 220 #[k,d]);have o:=Hd (AG w (oP #[k,d] 220));have HV:Hid (g.next (k,d)=(g.right k).getD d 0):=Hd rfl;have a8:Hid (∀x∈g.right k,1<=x):=Hd (by
  intro x t;unfold Gz.right Gz.Br at t;split at t
  ·simp at t
   have:=h.gn.fit.start;omega
  ·rw[dG]at t
   cases hq:g.R[k]? with
   | none=>rw[hq]at t;cases t
   | some r=>rw[hq]at t;exact(h.gn.fit.right r (mG hq) x t).1)
 clear h hc;generalize ae:(g.Br k).1=rl at *;generalize af:g.right k=T at *;generalize g.next (k,d)=nx at *;generalize g.R.length=nR at *;generalize g.nt=nt at *;generalize g.nn=nn at *;generalize g.s=gs at *;clear ae af;have a6:∀x∈T,1<=x:=a8.out;have a7:=Hd a6;clear a6;go_enter Tryz.func175,Tryz.ntmps175
 go_upto_region 1 with fail
 have hW:∃W,W=w.alloc (oP #[k,d] 220):=⟨_,rfl⟩
 have y0:=(o.cell (p:=⟨j,0,oN⟩) a0).trans z0;have y1:=(o.cell (p:=⟨j,1,oN⟩) a0).trans z1;have y2:=(o.cell (p:=⟨j,2,oN⟩) a0).trans z2;have y3:=(o.cell (p:=⟨j,3,oN⟩) a0).trans z3;have x0:=U.cell 0;have x1:=U.cell 1;simp only[List.getElem?_toArray,List.getElem?_cons_zero,List.getElem?_cons_succ]at x0 x1;have ag:w.heap.size<(w.alloc (oP #[k,d] 220)).heap.size:=by simp
 clear z0 z1 z2 z3 hW;generalize w.alloc (oP #[k,d] 220)=i at *;have a9:=Hd (HR i.drew o.drew);have aa:=Hd (HR ((i.alloc (oP #[oH oO 0,oG oN 0 0] 113)).drew) ((o.alloc nX _).drew));have HZ:Hid (Ah (i.alloc (oP #[oH oO 0,oG oN 0 0] 113)).drew i.heap.size 113 #[oH oO 0,oG oN 0 0]):=Hd (Ah.drew (Ah.newAt rfl));have ai:j<i.heap.size:=by omega
 go_region_law (first
  | (
    go_simp;go_at_call 59;first
      | (
        with_reducible refine a9.out.mono ?_
        rintro e w2 ⟨A,c,rfl,p,l⟩;have HN:=Hd p;have I:=Hd (o.drew.trans (l.mono (by show w.heap.size<=i.heap.size;omega)));have J:=Hd (Ah.below (g:=w.heap.size) (Ah.drew U) l ag);have ad:=J.lt;have k0:=J.cell 0;have k1:=J.cell 1;simp at k0 k1;clear l p)
      | (
        with_reducible refine aa.out.mono ?_
        rintro e w2 ⟨A,c,rfl,p,l⟩;have HN:=Hd p;have I:=Hd (((o.alloc nX (oP #[oH oO 0,oG oN 0 0] 113)).drew).trans (l.mono oC));have J:=Hd (Ah.below (g:=w.heap.size) (Ah.drew (Ah.alloc U (oP #[oH oO 0,oG oN 0 0] 113))) l oC);have P:=Hd (HZ.below l HZ.lt);have ad:=J.lt;have k0:=J.cell 0;have k1:=J.cell 1;have j0:=P.cell 0;have j1:=P.cell 1;have j2:=P.frozen 0;have j3:=P.frozen 1;simp at k0 k1 j0 j1;clear l p)))
 all_goals (
  by_cases ab:d<T.length
  ·obtain⟨x,a2⟩:∃x,T[d]?=oM x:=⟨_,eG ab⟩
   obtain⟨⟨A',c',e',a4⟩,-,-⟩:=HN.out;cases e'
   obtain⟨b2,R,rfl,l,a1⟩:=a4 d x a2;have an:=a7 x (mG a2);have a3:nx=x:=by rw[HV.out,dG,a2];rfl
   have a1:oT w2 (b2,R+d)=oM (oH oO x):=a1;subst a3;clear a4 a2;have al:(d:Int)<(T.length:Int):=by omega
   try (
     have a5:b2≠i.heap.size:=by
       rintro rfl;have C:=P.cell (R+d);rw[a1]at C
       match hq:R+d,C with
       | 0,C=>simp at C;omega
       | 1,C=>simp at C
       | n+2,C=>simp at C
     have ak:((w2.setCell (i,0) rl).setCell (i,1) (oG (b2,R) T.length c)).cell? (b2,R+d)=oM (oH oO nx):=(RH (p:=⟨i.heap.size,1,oN⟩) a5).trans ((RH (p:=⟨i.heap.size,0,oN⟩) a5).trans a1))
   go_wp2_with fail
   go_ret;first
     | exact⟨rfl,I.alloc I.size _⟩
     | exact⟨rfl,(I.setCell (p:=⟨i.heap.size,0,oN⟩) (by show w.heap.size<=i.heap.size;omega) _).setCell (p:=⟨i.heap.size,1,oN⟩) (by show w.heap.size<=i.heap.size;omega) _⟩
  ·have a3:nx=0:=by rw[HV.out,dG,nG nX];rfl
   subst a3;go_wp2_with fail
   go_ret;first
     | exact⟨rfl,I.alloc I.size _⟩
     | exact⟨rfl,(I.setCell (p:=⟨i.heap.size,0,oN⟩) (by show w.heap.size<=i.heap.size;omega) _).setCell (p:=⟨i.heap.size,1,oN⟩) (by show w.heap.size<=i.heap.size;omega) _⟩)
def Kt(w:oU)(l:List It)(o:oV)(wr:oU):Prop:=∃A c,o=oG A l.length c/\wr.ownsRow w 220 2 (oG A l.length c) l.length (l.flatMap Bg)/\Below w w wr
def Kt.later{wr w2:oU}{o:oV}(h:Kt w l o wr)(j:Below wr wr w2):Kt w l o w2:=by obtain⟨A,c,t,p,i⟩:=h;exact⟨A,c,t,AU p j,i.trans (j.mono i.size)⟩
def Wn{wr w2:oU}{A:Option Addr}(i:Below w w wr)(j:w2.ownsRow w 220 2 (oG A (l.length+1) c) (l.length+1) (l.flatMap Bg++Bg x))(o:AI w [220] wr w2):Kt w (l++[x]) (oG A (l.length+1) c) w2:=
 ⟨A,c,oA,by simpa using j,i.trans (o.below i.size)⟩
def PC(x:It)(y:oU):Be (y.alloc (oP #[x.1,x.2] 220)) (oG (y,0) 1 1) 1 2 (Bg x):=
 Be.Aj (c:=1) (cs:=Bg x) (Ah.new y 220 _) rfl (fun u i=>by unfold Bg at i;simp at i;rcases i with rfl|rfl<;>rfl)
def L2(g:Gz)(s:Nat):(g.CJ s).length<=g.R.length:=by unfold Gz.CJ;exact AW (List.length_filter_le _ _) oA
def YY{l:Nat}(h:BG w l v g){s:Nat}:() 174 #[(l,0),s] w fun e w'=>∃o,e=oQ o/\Kt w (g.En s) o w':=by
 have HO:=Hd (eV h.gn s);have ag:=L2 g s;have ah:=h.gn.fit.nr;have U:g.En s=(g.CJ s).map fun k=>(k,0):=rfl
 have a8:=Hd U;obtain⟨AT,cT,AN,cN,AR,cR,rfl,I,ae⟩:=h.gn.open_;obtain⟨z0,z1,z2,z3⟩:oT w (l,0)=oM (oG AT g.nt cT)/\oT w (l,1)=oM (oG AN g.nn cN)/\oT w (l,2)=oM (oG AR g.R.length cR)/\oT w (l,3)=oM (oH oO g.s):=⟨h.cell 0 nX,h.cell 1 nX,h.cell 2 nX,h.cell 3 nX⟩
 clear h I U;generalize g.En s=L at *;generalize g.CJ s=j at *;have af:j.length<=300:=by omega
 go_enter Tryz.func174,Tryz.ntmps174
 go_wp2_with (
      go_at_call 173;refine HO.mono ?_;rintro e w1 ⟨o,rfl,A,c,rfl,hr,hb⟩
      have a3:w1.ownsRow w 3 1 (oG A j.length c) j.length (j.map AY):=by simpa using hr
      have HN:=Hd a3;have HB:=Hd hb;simp only[lM]at *;clear hr hb a3)
 go_loopw [5,15] (fun o i wr=>∃k:Nat,k<=j.length/\i=oH oO k/\Hid (Kt w ((j.take k).map fun k=>(k,0)) o wr)/\Hid (wr.ownsRow w 3 1 (oG A j.length c) j.length (j.map AY))) (fun _ i _=>j.length-(intOf i).toNat)
 case atStart=>exact⟨0,AX _,rfl,Hd ⟨oN,0,rfl,⟨rfl,.inl ⟨rfl,rfl⟩⟩,HB⟩,HN⟩
 case round=>
  obtain⟨k,hk,rfl,p,C⟩:=hrel;by_cases ad:k<j.length
  ·obtain⟨x,J⟩:∃x,j[k]?=oM x:=⟨_,eG ad⟩
   obtain⟨b,rfl,a1⟩:∃b,A=oM ⟨b,0,oN⟩/\oT wr ⟨b,k,oN⟩=oM (oH oO x):=by
    obtain⟨⟨A',c',e,I⟩,-,-⟩:=Hi C nX;obtain⟨b,off,hA,-,a1⟩:=I k x J;cases e
    rcases Bj C.out with⟨-,T⟩|⟨b3,c3,T,-⟩
    ·omega
    ·cases T
     cases hA
     exact⟨_,rfl,by simpa [AY] using a1⟩
   obtain⟨A2,c2,ho,a4,a0⟩:=p.out;have a5:j.take (k+1)=j.take k++[x]:=by rw[List.take_add_one,J];rfl
   have ab:((j.take k).map fun k=>((k,0):It)).length=k:=by simp;omega
   have aa:=Hd a5;have a9:=Hd a4;have t:=Hd a0;have HS:=Hd (PC (x,0));subst ho;clear J a5 p a4 a0;generalize a2:((j.take k).map fun k=>((k,0):It))=P at *;have a7:=Hd a2;clear a2;go_wp2_with (
       at_builtin;refine DC Pr (.tmp 19) (.tmp 22) rfl rfl (base:=w.heap.size) (n:=P.length) (m:=1) (N:=P.length+1) (xs:=P.flatMap Bg) (news:=Bg (x,0)) rfl rfl (a9.alloc _) (HS _) rfl oB nX (by have:=t.size;simp;omega) ?_
       intro A3 c3 w3 r1 R r3;have HF:=Hd (Wn (t.trans ((AG wr _).mono t.size)) r1 R);have a6:=Hd (R.own (AU C (AG wr _)) (.inr nY));clear r1 R r3)
   go_roundw
   case rel=>exact⟨k+1,nX,oD,Hd (by rw[aa.out,BB,a7.out];have:=HF.out;rw[ab]at this;exact this),a6⟩
   case measure=>simp[intOf];omega
  ·obtain rfl:k=j.length:=by omega
   rw[List.take_length]at p;go_wp2_with fail
   go_ret;exact⟨_,rfl,by rw[a8.out];exact p⟩
def BP:List It->List It
 | []=>[]
 | [x]=>[x]
 | x::y::l=>if x=y then BP (y::l) else x::BP (y::l)
theorem Pu:∀(l:List It) (y x:It),BP (l++[y]++[x])=if y=x then BP (l++[y]) else BP (l++[y])++[x]
 | [],y,x=>by
  show BP [y,x]=_;rw[BP];split
  ·rename_i h;rw[h];rfl
  ·rfl
 | [a],y,x=>by
  show BP [a,y,x]=_;have h:=Pu [] y x;simp only[List.nil_append,List.singleton_append]at h;show (if a=y then BP [y,x] else a::BP [y,x])=if y=x then(if a=y then BP [y] else a::BP [y]) else(if a=y then BP [y] else a::BP [y])++[x]
  rw[h];split<;>split<;>rfl
 | a::b::l,y,x=>by
  have h:=Pu (b::l) y x;have i:∀m:List It,BP (a::b::m)=if a=b then BP (b::m) else a::BP (b::m):=fun m=>rfl
  simp only[List.cons_append]at h ⊢;rw[i,i,h];split<;>split<;>rfl
theorem Ph:∀l:List It,(BP l).length<=l.length
 | []=>Ay _
 | [x]=>Ay _
 | x::y::l=>by
  have h:=Ph (y::l);unfold BP;split
  ·simp at h ⊢;omega
  ·simp at h ⊢;omega
def QN{j:Nat}{y:It}(p:l[j+1]?=oM x)(t:l[j]?=oM y):BP (l.take (j+2))=if y=x then BP (l.take (j+1)) else BP (l.take (j+1))++[x]:=by
 have i:l.take (j+1)=l.take j++[y]:=by rw[List.take_add_one,t];rfl
 have o:l.take (j+2)=l.take j++[y]++[x]:=by rw[<-i,show j+2=(j+1)+1 by omega,List.take_add_one,p];rfl
 rw[o,i];exact Pu _ _ _
def SG(x y:It)(w:oU):(Op.equalIn 10000 220 (CN x) (CN y)).run Tryz.prog w=.ok (decide (x=y)) w:=by
 have u3:=Tryz.underlying3;have p:=Tryz.isAgg3;have t:=Tryz.sizeOf3;have l:Tryz.prog.underlying 220=oM (.struct (Tryz.prog.fieldsOf 220)):=by kernel_rfl
 have o:Tryz.prog.stoodInHeld 220=false:=by kernel_rfl
 obtain⟨a,b⟩:=x;obtain⟨c,d⟩:=y;unfold CN;simp only;rw[show (10000:Nat)=9999+1 from rfl,run_equalIn_agg w 9999 220 _ _ l o];simp only[Program.fieldsOf,Tryz.underlying220];go_simp;by_cases i:a=c<;>by_cases j:b=d<;>simp[i,j]<;>omega
def S7(x y:It)(w:oU):(binOp .eql 220 (CN x) (CN y)).run Tryz.prog w=.ok (.bool (decide (x=y))) w:=by show (binOp .eql 220 (.agg _) (.agg _)).run Tryz.prog w=_;rw[run_eql_struct];have h:=SG x y w;unfold CN at h;rw[h];rfl
def lW(x y:It)(w:oU):(binOp .neq 220 (CN x) (CN y)).run Tryz.prog w=.ok (.bool (!decide (x=y))) w:=by show (binOp .neq 220 (.agg _) (.agg _)).run Tryz.prog w=_;rw[run_neq_struct];have h:=SG x y w;unfold CN at h;rw[h];rfl
def OR(op:BinOp)(a b:Operand)(x y:It)(w:oU):(eqGuard op 220 a b (CN x) (CN y)).run Tryz.prog w=.ok () w:=run_eqGuard_agg w op 220 a b _ _ nZ
abbrev DG(w:oU)(B g n c:Nat)(r:List It):Prop:=w.ownsRow B 220 2 (oG (g,0) n c) n (r.flatMap Bg)
def NN(r:List It):(r.flatMap Bg).length=r.length*2:=KU Bg 2 (fun _=>rfl) r
def J4{g:Nat}(h:DG w B g n c r):r.length=n:=by have:=h.1;rw[NN]at this;omega
def WV{g:Nat}(h:DG w B g n c r)(p:r[k]?=oM x):oT w (g,k*2)=oM (oH oO x.1)/\oT w (g,k*2+1)=oM (oH oO x.2):=by obtain⟨l,o⟩:=sG.1 p;have t:=J4 h;have i:=CP Bg 2 (fun _=>rfl) r k 0 l nX;have j:=CP Bg 2 (fun _=>rfl) r k 1 l nX;rw[o,Nat.add_zero]at i;rw[o]at j;exact⟨by rw[Bh h (k*2) nX,i];rfl,by rw[Bh h (k*2+1) nX,j];rfl⟩
theorem dI(r:List It)(k:Nat)(x:It)(i:k<r.length):((r.flatMap Bg).set (k*2) x.1).set (k*2+1) x.2=(r.set k x).flatMap Bg:=by
 induction r generalizing k with
 | nil=>simp at i
 | cons a r l=>
  cases k with
  | zero=>rfl
  | succ k=>
   have j:(k+1)*2=k*2+2:=by omega
   have h:=l k (by simpa using i);rw[List.flatMap_cons,List.set_cons_succ,List.flatMap_cons,<-h,j];rfl
def nj{g:Nat}(h:DG w B g n c r)(l:k<n)(x:It):DG ((w.setCell (g,k*2) x.1).setCell (g,k*2+1) x.2) B g n c (r.set k x):=by have j:=Ge h (k*2) nX x.1;have i:=Ge j (k*2+1) nX x.2;rw[dI r k x (by rw[J4 h];exact l)]at i;exact i
theorem Qw(h:l.length<2):BP l=l:=by
 match l,h with
 | [],_=>rfl
 | [x],_=>rfl
 | x::y::l,h=>simp at h;omega
theorem Qf{B:Nat}{e:TypeId}{size n c g:Nat}:∀(i:List oV) (w:oU) (xs:List oV) (o:Nat),w.ownsRow B e size (oG (g,0) n c) n xs->o+i.length<=n*size ->
  ∃j,(w.setCells g o i).ownsRow B e size (oG (g,0) n c) n j/\j.take o=xs.take o/\Am (·=g) w (w.setCells g o i)
 | [],w,xs,o,h,_=>⟨xs,h,rfl,Am.refl _ _⟩
 | z::i,w,xs,o,h,t=>by have C:=Ge h o (by simp at t;omega) z;obtain⟨j,I,J,P⟩:=Qf i _ _ (o+1) C (by simp at t ⊢;omega);refine⟨j,I,?_,((Am.refl (·=g) w).set (p:=⟨g,o,oN⟩) (.inr rfl) z).next P⟩;have p:=congrArg (fun l=>l.take o) J;simp only[List.take_take,Nat.min_eq_left (by omega:o<=o+1)]at p;rw[p,List.take_set_of_le nX]
def dQ{P:Program}{t e:TypeId}{z:oV}(w:oU)(ht:P.underlying t=oM (.slice e))(hv:∀w,(zeroValue e).run P w=.ok z w){a b:oV}(J:z.cells=#[a,b])(C:a.oneCell'=true/\b.oneCell'=true)(g o n c:Nat)(hn:0<n)
  (T:∀j,j<n*2->(oT w (g,o+j)).isSome=true) (U:∀j,j<n*2->w.frozen? (g,o+j)=false) (ty:TypeId) :
  ∃R:List oV,R.length=n*2/\(Builtin.clear_ #[t] ty #[oG (g,o) n c]).run P w=.ok (.tuple #[]) (w.setCells g o R):=by
 have l:(Builtin.zeroCells z.cells n).toList.length=n*2:=by rw[J];simp[Builtin.zeroCells]
 refine⟨(Builtin.zeroCells z.cells n).toList,l,?_⟩;have a0:∀v∈(Builtin.zeroCells z.cells n).toList,v.oneCell'=true:=by
  intro v p;rw[J]at p;simp[Builtin.zeroCells]at p;obtain⟨i,hi,rfl⟩:=p;have:i%2=0\/i%2=1:=by omega
  rcases this with h|h<;>rw[h]
  ·exact C.1
  ·exact C.2
 have I:=run_storeCells_cells (P:=P) g o (Builtin.zeroCells z.cells n).toList 0 w (by rw[l];simpa using T) (by rw[l];simpa using U) a0;simp only[Nat.add_zero]at I;obtain⟨m,rfl⟩:∃m,n=m+1:=⟨n-1,nX⟩
 simp[Builtin.clear_,run_underlying ht,hv,I]
def XC(w:oU):(zeroValue 220).run Tryz.prog w=.ok (.agg #[oH oO 0,oH oO 0]) w:=Tryz.zeroValue220 w
def Vl(w:oU)(B g n c:Nat)(l:List It)(e:Ending)(w':oU):Prop:=e=oQ (oG (g,0) (BP l).length c)/\DG w' B g (BP l).length c (BP l)/\Am (·=g) w w'
def MY{g:Nat}(h:DG w B g n c r)(q:Nat):DG (w.drewN q) B g n c r:=AU h ⟨rfl,rfl,rfl,Ay _,fun _ _=>rfl⟩
def W4{g:Nat}(h:DG w B g n c l)(hn:n<=100000)(ax:n<=c):() 213 #[oG (g,0) n c] w (Vl w B g n c l):=by
 have hl:=J4 h;have HR:=Hd h;have HF:Hid (∀(y:oU) (r:List It),DG y B g n c r->∀(k:Nat) (x:It),r[k]?=oM x->(oT y (g,k*2)=oM (oH oO x.1)/\oT y (g,k*2+1)=oM (oH oO x.2))/\y.frozen? (g,k*2)=false/\y.frozen? (g,k*2+1)=false):=Hd (fun y r U k x J=>⟨WV U J,GD U _,GD U _⟩);unfold Vl;by_cases h2:n<2
 ·have hd:=Qw (l:=l) nX
  have HD:=Hd hd;clear h;go_enter Tryz.func213,Tryz.ntmps213
  go_wp2_with fail
  go_ret;exact⟨by rw[HD.out,hl];rfl,by rw[HD.out,hl];exact HR,Am.refl _ _⟩
 ·clear h
  go_enter Tryz.func213,Tryz.ntmps213
  go_wp2_with fail
  go_loopw [3] (fun a1 wr=>∃k q:Nat,1<=k/\k<=n/\a1=oH oO k/\wr=w.drewN q/\Hid (BP (l.take k)=l.take k)) (fun a1 _=>n-(intOf a1).toNat)
  case atStart=>exact⟨1,0,Ay _,nX,rfl,rfl,Hd (Qw (by rw[List.length_take];omega))⟩
  case round=>
   obtain⟨k,q,ai,hk,rfl,rfl,HD⟩:=hrel;by_cases av:k<n
   ·obtain⟨⟨xa,xb⟩,J⟩:∃x,l[k]?=oM x:=⟨_,eG nX⟩
    obtain⟨⟨ya,yb⟩,U⟩:∃x,l[k-1]?=oM x:=⟨_,eG nX⟩
    obtain⟨⟨c0,c1⟩,-⟩:=HF w l HR k _ J;obtain⟨⟨d0,d1⟩,-⟩:=HF w l HR (k-1) _ U;have HT:Hid (BP (l.take (k+1))=if (ya,yb)=(xa,xb) then BP (l.take k) else BP (l.take k)++[(xa,xb)]):=Hd (by have:=QN (l:=l) (j:=k-1) (x:=(xa,xb)) (y:=(ya,yb)) (by rw[show k-1+1=k by omega];exact J) U;rwa [show k-1+2=k+1 by omega,show k-1+1=k by omega]at this)
    have a8:l.take (k+1)=l.take k++[(xa,xb)]:=by rw[List.take_add_one,J];rfl
    have af:=Hd a8;have HX:=Hd J;have heq:=fun y=>S7 (xa,xb) (ya,yb) y
    have a0:=fun y op a b=>OR op a b (xa,xb) (ya,yb) y
    unfold CN at heq a0;simp only at c0 c1 d0 d1 heq a0;have i1:(0:Int)<=(k:Int)-1:=by omega
    have i2:(k:Int)<(n:Int):=by omega
    have i3:(k:Int)-1<(n:Int):=by omega
    clear J U a8;by_cases p:((xa,xb):It)=(ya,yb)
    ·have T:decide (((xa,xb):It)=(ya,yb))=true:=decide_eq_true p
     rw[T]at heq;have a2:Hid (BP (l.take (k+1))=l.take k):=Hd (by rw[HT.out,if_pos p.symm,HD.out]);have an:¬(c=k):=by omega
     clear HT p T;go_upto_region 6 with fail
     go_quiet (fail)
     have ae:=Hd (MY HR (q+nq));have ad:Hid (Am (·=g) w (w.drewN (q+nq))):=Hd (Am.AJ ⟨rfl,rfl,rfl,Ay _,fun _ _=>rfl⟩);clear heq a0 c0 c1 d0 d1;go_wp2_with fail
     go_loopw [3,5] (fun a1 i2 wr=>∃(o i:Nat) (r:List It),a1=oH oO o/\i2=oH oO i/\1<=i/\k+i<=n/\o<k+i/\1<=o/\Hid (DG wr B g n c r)/\Hid (Am (·=g) w wr)/\Hid (r.take o=BP (l.take (k+i))/\o=(BP (l.take (k+i))).length/\∀j,k+i-1<=j->r[j]?=l[j]?)) (fun _ i2 _=>n-(intOf i2).toNat)
     case atStart=>exact⟨k,1,l,rfl,rfl,Ay _,nX,nX,ai,ae,ad,Hd ⟨by rw[a2.out],by rw[a2.out,List.length_take];omega,fun _ _=>rfl⟩⟩
     case round=>
      obtain⟨o,i,r,rfl,rfl,h1,au,aq,aj,R,a5,I⟩:=hrel;rename oU=>P
      by_cases aw:k+i<n
      ·obtain⟨⟨t,C⟩,J⟩:∃x,l[k+i]?=oM x:=⟨_,eG nX⟩
       obtain⟨⟨ra,rb⟩,U⟩:∃x,l[k+i-1]?=oM x:=⟨_,eG nX⟩
       obtain⟨oo,ho⟩:∃x,r[o]?=oM x:=⟨_,eG (by rw[J4 R.out];omega)⟩
       obtain⟨⟨c0,c1⟩,-⟩:=HF P r R (k+i) _ ((I.2.2 _ nX).trans J);obtain⟨⟨d0,d1⟩,-⟩:=HF P r R (k+i-1) _ ((I.2.2 _ nX).trans U);obtain⟨⟨o0,o1⟩,f0,f1⟩:=HF P r R o _ ho;rw[show (k+i)*2=k*2+i*2 by omega]at c0 c1;rw[show (k+i-1)*2=k*2+(i-1)*2 by omega]at d0 d1;have HT:Hid (BP (l.take (k+i+1))=if (ra,rb)=(t,C) then BP (l.take (k+i)) else BP (l.take (k+i))++[(t,C)]):=Hd (by have:=QN (l:=l) (j:=k+i-1) (x:=(t,C)) (y:=(ra,rb)) (by rw[show k+i-1+1=k+i by omega];exact J) U;rwa [show k+i-1+2=k+i+1 by omega,show k+i-1+1=k+i by omega]at this)
       have ak:=Hd J;have heq:=fun y=>lW (t,C) (ra,rb) y
       have a0:=fun y op a b=>OR op a b (t,C) (ra,rb) y
       unfold CN at heq a0;simp only at c0 c1 d0 d1 heq a0;have j1:(0:Int)<=(i:Int)-1:=by omega
       have j2:(i:Int)<((n-k:Nat):Int):=by omega
       have j3:(i:Int)-1<((n-k:Nat):Int):=by omega
       have j4:(o:Int)<(n:Int):=by omega
       clear J U ho;by_cases p:((t,C):It)=(ra,rb)
       ·have T:(!decide (((t,C):It)=(ra,rb)))=false:=by rw[decide_eq_true p];rfl
        rw[T]at heq;have a6:Hid (r.take o=BP (l.take (k+(i+1)))/\o=(BP (l.take (k+(i+1)))).length/\∀j,k+(i+1)-1<=j->r[j]?=l[j]?):=Hd (by rw[show k+(i+1)=k+i+1 by omega,HT.out,if_pos p.symm];exact⟨I.1,I.2.1,fun j hj=>I.2.2 j nX⟩)
        clear HT p T I;go_upto_region 11 with fail
        go_quiet (fail)
        have a7:=Hd (MY R nq);have a4:Hid (Am (·=g) w (P.drewN nq)):=Hd (a5.next (Am.AJ ⟨rfl,rfl,rfl,Ay _,fun _ _=>rfl⟩));clear heq a0;go_wp2_with fail
        go_roundw
        case rel=>exact⟨o,i+1,r,rfl,oD,nX,nX,nX,aj,a7,a4,a6⟩
        case measure=>simp[intOf];omega
       ·have T:(!decide (((t,C):It)=(ra,rb)))=true:=by rw[decide_eq_false p];rfl
        rw[T]at heq;have a6:Hid ((r.set o (t,C)).take (o+1)=BP (l.take (k+(i+1)))/\o+1=(BP (l.take (k+(i+1)))).length/\∀j,k+(i+1)-1<=j->(r.set o (t,C))[j]?=l[j]?):=Hd (by
         have ay:=J4 R;rw[show k+(i+1)=k+i+1 by omega,HT.out,if_neg (fun e=>p e.symm)];refine⟨?_,?_,fun j hj=>?_⟩
         ·rw[List.take_add_one,tG nX,List.take_set_of_le (Ay _),I.1]
          rfl
         ·rw[Cb,<-I.2.1];rfl
         ·rw[uG nX]
          exact I.2.2 j nX)
        clear HT p T I;go_upto_region 11 with fail
        go_quiet (fail)
        have a7:=Hd (nj (MY R nq) (k:=o) nX (t,C));have a4:Hid (Am (·=g) w (((P.drewN nq).setCell (g,o*2) t).setCell (g,o*2+1) C)):=Hd (((a5.next (Am.AJ (a:=P) (b:=P.drewN nq) ⟨rfl,rfl,rfl,Ay _,fun _ _=>rfl⟩)).set (p:=⟨g,o*2,oN⟩) (.inr rfl) _).set (p:=⟨g,o*2+1,oN⟩) (.inr rfl) _);clear heq a0;go_wp2_with fail
        go_roundw
        case rel=>exact⟨o+1,i+1,r.set o (t,C),oD,oD,nX,nX,nX,nX,a7,a4,a6⟩
        case measure=>simp[intOf];omega
      ·have ah:k+i=n:=by omega
       have ar:o<n:=by omega
       have ao:¬(c=o):=by omega
       obtain⟨zs,az,al⟩:=dQ (P:=Tryz.prog) (t:=116) (e:=220) (z:=.agg #[oH oO 0,oH oO 0]) P Tryz.underlying116 XC (a:=oH oO 0) (b:=oH oO 0) rfl ⟨rfl,rfl⟩ g (o*2) (n-o) (c-o) nX (fun j hj=>by have ag:=Bh R (o*2+j) nX;rw[ag,Option.isSome_iff_exists];exact⟨_,eG (by rw[NN,J4 R.out];omega)⟩) (fun j hj=>GD R _) 0
       obtain⟨b0,a9,aa,ab⟩:=Qf zs P _ (o*2) R nX;have a3:Hid (DG (P.setCells g (o*2) zs) B g o c (BP l)/\(BP l).length=o/\Am (·=g) w (P.setCells g (o*2) zs)):=Hd (by obtain⟨t1,t2,-⟩:=I.out;rw[ah,<-hl,List.take_length]at t1 t2;refine⟨?_,t2.symm,a5.next ab⟩;have hz:=Vd a9 (k:=o) nX;rw[aa,Q0 Bg 2 (fun _=>rfl),t1]at hz;exact hz)
       clear a9 aa ab I;generalize P.setCells g (o*2) zs=W9 at *;have j4:(o:Int)<(n:Int):=by omega
       have j5:(o:Int)<=(n:Int):=by omega
       have j6:(0:Int)<=(o:Int):=by omega
       go_wp2_with fail
       go_ret;exact⟨by rw[a3.2.1];rfl,by rw[a3.2.1];exact a3.1,a3.2.2⟩
    ·have T:decide (((xa,xb):It)=(ya,yb))=false:=decide_eq_false p
     rw[T]at heq;have a2:Hid (BP (l.take (k+1))=l.take (k+1)):=Hd (by rw[HT.out,if_neg (fun e=>p e.symm),HD.out,af.out]);clear HT p T;go_upto_region 6 with fail
     go_quiet (fail)
     go_wp2_with fail
     go_roundw
     case rel=>exact⟨k+1,q+nq,nX,nX,oD,rfl,a2⟩
     case measure=>simp[intOf];omega
   ·obtain rfl:k=n:=by omega
    have HE:Hid (BP l=l):=Hd (by have:=HD.out;rwa [<-hl,List.take_length]at this);go_wp2_with fail
    go_ret;exact⟨by rw[HE.out,hl];rfl,by rw[HE.out,hl];exact MY HR q,Am.AJ ⟨rfl,rfl,rfl,Ay _,fun _ _=>rfl⟩⟩
