/- . -/
import Derived.Test.YtiljpamcmmeflaaGreatDoorXaf
import Derived.Deep.RegionHeld3
import Derived.Laws.StructEq
import Derived.Lib.SliceRun
import Derived.Test.YtiljpamcmmeflaaGreatDoorXaa
import Derived.Test.YtiljpamcmmeflaaGreatDoorXnm
set_option linter.all false
set_option maxRecDepth 100000
set_option maxHeartbeats 16000000
namespace Go.Proofs.YtiljpamcmmeflaaGreatDoor
open Go.RowKit
open Value renaming slice→nC,int→nE
open Option renaming some→nJ,none→nK
open IntKind renaming i64→nM
open Obj renaming cells→nO
open Ending renaming returned→nP
open World renaming cell?→nQ
open Go renaming World→nS,Value→nU
variable{w':nS}{B c n:Nat}{r:List It}
def Bf(x:It):List nU:=[nE nM x.1,nE nM x.2]
def CH(x:It):nU:=.agg #[x.1,x.2]
namespace Gz
def next(g:Gz)(x:It):Nat:=(g.right x.1).getD x.2 0
def Eg(g:Gz)(s:Nat):List It:=(g.CF s).map fun k=>(k,0)
end Gz
structure CK(w:nS)(v:nU)(l:List It):Prop where
 Fg:∃A c,v=nC A l.length c/\∀k x,l[k]?=nJ x->∃b off,A=nJ ⟨b,off,nK⟩/\b<w.heap.size/\nQ w ⟨b,off+k*2,nK⟩=nJ (nE nM x.1)/\nQ w ⟨b,off+k*2+1,nK⟩=nJ (nE nM x.2)
 short:l.length<=4611686018427387904
 room:∀A n c,v=nC A n c->n<=c/\(A=nK->c=0)
def CK.later{w:nS}{v:nU}{l:List It}(h:CK w v l)(i:Below w w w'):CK w' v l:=by obtain⟨⟨A,c,P,C⟩,J,I⟩:=h;refine⟨⟨A,c,P,fun k x R=>?_⟩,J,I⟩;obtain⟨b,off,t,j,o,p⟩:=C k x R;exact⟨b,off,t,AK j i.size,(i.cell (p:=⟨b,off+k*2,nK⟩) j).trans o,(i.cell (p:=⟨b,off+k*2+1,nK⟩) j).trans p⟩
def CK.own{w:nS}{e:TypeId}{v:nU}{l:List It}(h:w.ownsRow B e 2 v l.length (l.flatMap Bf))(p:l.length<=4611686018427387904):CK w v l:=by
 rcases Bg h with⟨rfl,h0⟩|⟨b,c,rfl,J,t,C,P,_⟩
 ·exact⟨⟨nK,0,by rw[h0],fun k x i=>by have:=(sG.1 i).1;omega⟩,p,fun A n c e=>by cases e;exact⟨AF _,fun _=>rfl⟩⟩
 ·refine⟨⟨_,c,rfl,fun k x i=>⟨b,0,rfl,t,?_,?_⟩⟩,p,fun A n I e=>by cases e;exact⟨C,fun e=>by cases e⟩⟩
  ·obtain⟨j,o⟩:=sG.1 i
   have:=CR Bf 2 (fun _=>rfl) l k 0 j mR;rw[o,Nat.add_zero]at this;rw[Nat.zero_add,Bb h (k*2) mR,this];rfl
  ·obtain⟨j,o⟩:=sG.1 i
   have:=CR Bf 2 (fun _=>rfl) l k 1 j mR;rw[o]at this;rw[Nat.zero_add,Bb h (k*2+1) mR,this];rfl
structure BG(w:nS)(bb:Nat)(v:nU)(g:Gz):Prop where
 gn:GN w v g
 cell:∀j,j<4->nQ w ⟨bb,j,nK⟩=v.cells[j]?
variable{g:Gz}
def Pr:El Tryz.prog 148 256 2 16:=El.of (z:=.agg #[nE nM 0,nE nM 0]) Tryz.underlying148 mU rfl mT
def iP(w:nS)(x y:It)(i:x.1<=100000/\x.2<=100000)(j:y.1<=100000/\y.2<=100000):() 213 #[CH x,CH y] w fun e w'=>e=nP (nE nM (if x.1=y.1 then(x.2:Int)-y.2 else(x.1:Int)-y.1))/\w'=(w.alloc (nO #[x.1,x.2] 256)).alloc (nO #[y.1,y.2] 256):=by
 obtain⟨a,b⟩:=x;obtain⟨c,d⟩:=y;simp only at i j;unfold CH;simp only;by_cases h:a=c
 ·rw[if_pos h]
  subst h;go_enter Tryz.func213,Tryz.ntmps213
  go_wp2;go_ret;exact⟨nB,rfl⟩
 ·rw[if_neg h]
  have l:((a:Int) != (c:Int))=true:=by rw[bne_iff_ne];omega
  go_enter Tryz.func213,Tryz.ntmps213
  go_wp2;go_ret;exact⟨nB,rfl⟩
def dX{w:nS}{v:nU}(h:GN w v g):() 185 #[v] w fun e w'=>e=nP (.bool true)/\Below w w w':=by
 have l:=Hd (fun y (p:Below w w y)=>Pt (h.later p));have J:=Hd (Ah.new w 58 v.cells);obtain⟨I,T,t,P,C,R,rfl,o,U⟩:=h.open_;clear h o;go_enter Tryz.func185,Tryz.ntmps185
 go_wp2_with (go_at_call 68;refine(l _ (AE _ _)).mono ?_;rintro e w' ⟨rfl,i⟩;have j:=Hd (Et i);clear i)
 go_ret;exact⟨rfl,j⟩
def cF{w:nS}{v:nU}(h:GN w v g):() 146 #[v] w fun e w'=>∃A c,e=nP (nC A 1 c)/\w'.ownsRow w 256 2 (nC A 1 c) 1 (Bf (g.R.length,0))/\Below w w w':=by
 have C:=Hd (fun y (hy:Below w w y)=>dX (h.later hy));obtain⟨t,R,o,J,p,P,rfl,U,a0⟩:=h.open_;have l:=Hd (Ah.new w 58 #[nC t g.nt R,nC o g.nn J,nC p g.R.length P,g.s]);clear h U;go_enter Tryz.func146,Tryz.ntmps146
 go_wp2_with (go_at_call 185;refine(C _ (AE _ _)).mono ?_;rintro e w1 ⟨rfl,j⟩;have i:=Hd (Et j);have I:=Hd (l.below j l.lt);have T:=I.cell 2;simp at T;clear j)
 go_ret;refine⟨_,_,rfl,?_,i.alloc i.size _⟩;refine⟨rfl,.inr ⟨w1.heap.size,1,#[g.R.length,nE nM 0],rfl,i.size,Ah.newAt rfl,mV,mT,rfl,rfl⟩⟩
def BG.later{w:nS}{i:Nat}{v:nU}(h:BG w i v g)(l:Below w w w'):BG w' i v g:=by
 refine⟨h.gn.later l,fun j p=>?_⟩;have o:=h.cell j p;obtain⟨J,T,C,P,I,R,rfl,-⟩:=h.gn.open_;have t:i<w.heap.size:=by have h0:=h.cell 0 mR;exact World.block_lt_of_cell? w _ h0
 exact(l.cell (p:=⟨i,j,nK⟩) t).trans o
structure Fu(w:nS)(v:nU)(V:List (nU×nU))(L E:List (List It)):Prop where
 Fg:∃A c,v=nC A V.length c/\V.length<=c/\∀(k:Nat) (x:nU×nU),V[k]?=nJ x->∃b off,A=nJ ⟨b,off,nK⟩/\b<w.heap.size/\nQ w ⟨b,off+k*2,nK⟩=nJ x.1/\nQ w ⟨b,off+k*2+1,nK⟩=nJ x.2
 len:L.length=V.length/\E.length=V.length
 items:∀(k:Nat) (x:nU×nU) (l:List It),V[k]?=nJ x->L[k]?=nJ l->CK w x.1 l
 trans:∀(k:Nat) (x:nU×nU) (l:List It),V[k]?=nJ x->E[k]?=nJ l->CK w x.2 l
 small:V.length<=100000
variable{w:nS}{v:nU}{V:List (nU×nU)}{k:Nat}{l:List It}{x:It}
def Fu.later{L E:List (List It)}(h:Fu w v V L E)(i:Below w w w'):Fu w' v V L E:=by obtain⟨⟨A,c,T,h0,R⟩,t,C,I,J⟩:=h;refine⟨⟨A,c,T,h0,fun k x U=>?_⟩,t,fun k x l a b=>(C k x l a b).later i,fun k x l a b=>(I k x l a b).later i,J⟩;obtain⟨b,off,P,j,o,p⟩:=R k x U;exact⟨b,off,P,AK j i.size,(i.cell (p:=⟨b,off+k*2,nK⟩) j).trans o,(i.cell (p:=⟨b,off+k*2+1,nK⟩) j).trans p⟩
def DS(t:List It)(s:Nat):Int:=match t.find? (fun x=>x.1==s) with|some x=>(x.2:Int)|none => -1
def VZ(x:It)(t:List It)(s:Nat):DS (x::t) s=if x.1=s then(x.2:Int) else DS t s:=by
 unfold DS;rw[List.find?_cons];by_cases h:x.1=s
 ·rw[if_pos h,show (x.1==s)=true by simp[h]]
 ·rw[if_neg h,show (x.1==s)=false by simp[h]]
def RR{L E:List (List It)}(h:Fu w v V L E){i s:Nat}(hi:i<V.length) :
  () 82 #[v,i,s] w fun e w'=>e=nP (nE nM (DS (E.getD i []) s))/\Below w w w':=by
 obtain⟨⟨A,c,rfl,a9,hc⟩,⟨a3,a4⟩,h2,h3,h4⟩:=h;obtain⟨x,R⟩:∃x,V[i]?=nJ x:=⟨_,eG hi⟩
 obtain⟨t,P⟩:∃t,E[i]?=nJ t:=⟨_,eG mR⟩
 obtain⟨b,off,rfl,hb,c0,c1⟩:=hc i x R;obtain⟨⟨At,ct,a8,a1⟩,ab,a7⟩:=h3 i x t R P;have e:E.getD i []=t:=by rw[dG,P];rfl
 rw[e];rw[a8]at c1;have HC:=Hd a1;have aa:(i:Int)<(V.length:Int):=by omega
 obtain⟨r,J⟩:∃r,DS t s=r:=⟨_,rfl⟩
 rw[J];have HR:=Hd J;clear a1 a7 h2 h3 R P hc J e a3 a4;generalize V.length=n at *;go_enter Tryz.func82,Tryz.ntmps82
 go_wp2_with fail
 go_loopw [23] (fun ii wr=>∃k:Nat,k<=t.length/\ii=nE nM k/\Hid (Below w w wr)/\Hid (DS (t.drop k) s=r)) (fun ii _=>t.length-(intOf ii).toNat)
 case atStart=>exact⟨0,A0 _,rfl,Hd (Below.refl _ _),HR⟩
 case round=>
  obtain⟨k,hk,rfl,l,HG⟩:=hrel;by_cases a5:k<t.length
  ·obtain⟨⟨U,tt⟩,T⟩:∃x,t[k]?=nJ x:=⟨_,eG a5⟩
   obtain⟨b2,a2,rfl,a0,C,I⟩:=HC k _ T;have C:=(l.cell (p:=⟨b2,a2+k*2,nK⟩) a0).trans C;have I:=(l.cell (p:=⟨b2,a2+k*2+1,nK⟩) a0).trans I;have j:=HG.out;rw[IH T,VZ]at j;simp only at j C I;clear T;by_cases p:U=s
   ·rw[if_pos p]at j
    have a6:((U:Int)==(s:Int))=true:=by rw[p];simp
    have o:=Hd j;clear j p;go_wp2_with fail
    go_ret;exact⟨by rw[<-o.out];rfl,l.trans ((AE _ _).mono l.size)⟩
   ·rw[if_neg p]at j
    have a6:((U:Int)==(s:Int))=false:=by rw[bN];omega
    have o:=Hd j;clear j p;go_wp2_with fail
    go_roundw
    case rel=>exact⟨k+1,mR,mY,Hd (l.trans ((AE _ _).mono l.size)),o⟩
    case measure=>simp[intOf];omega
  ·obtain rfl:k=t.length:=by omega
   have j:=HG.out;rw[List.drop_length]at j;have o:Hid (-1=r):=Hd j;clear j;go_wp2_with fail
   go_ret;exact⟨by rw[<-o.out];rfl,l⟩
def Te{p:Addr}{u:nU}{b o:Nat}(h:b≠p.block):(w.setCell p u).cell? (b,o)=nQ w (b,o):=World.cell?_of_block (Below.heap_setCell _ _ _ _ h)
def OD{j:Nat}(h:BG w j v g){d:Nat}(hk:k<=g.R.length)(hd:d<=100000):() 183 #[(j,0),.agg #[k,d]] w fun e w'=>e=nP (nE nM (g.next (k,d):Nat))/\Below w w w':=by
 have HR:Hid (∀y,Below w w y->() 80 #[v,k] y fun e w'=>∃A c,e=nP (.tuple #[.agg #[nE nM ((g.AX k).1:Nat),nC A (g.right k).length c],.bool true])/\Bv w' (nC A (g.right k).length c) (g.right k)/\Below y y w'):=Hd (fun y hy=>by refine(XQ (h.gn.later hy) hk).mono ?_;rintro e w' ⟨rv,he,p,hb⟩;obtain⟨⟨A,c,rfl,-⟩,-,-⟩:=id p;exact⟨A,c,he,p,hb⟩)
 have ah:=Hd h;obtain⟨AT,cT,AN,cN,AR,cR,rfl,hc,aj⟩:=h.gn.open_;obtain⟨z0,z1,z2,z3⟩:nQ w (j,0)=nJ (nC AT g.nt cT)/\nQ w (j,1)=nJ (nC AN g.nn cN)/\nQ w (j,2)=nJ (nC AR g.R.length cR)/\nQ w (j,3)=nJ (nE nM g.s):=⟨h.cell 0 mR,h.cell 1 mR,h.cell 2 mR,h.cell 3 mR⟩
 have a0:j<w.heap.size:=World.block_lt_of_cell? w _ z0;have U:=Hd (Ah.new w 256 #[k,d]);have o:=Hd (AE w (nO #[k,d] 256));have HV:Hid (g.next (k,d)=(g.right k).getD d 0):=Hd rfl;have a8:Hid (∀x∈g.right k,1<=x):=Hd (by
  intro x t;unfold Gz.right Gz.AX at t;split at t
  ·simp at t
   have:=h.gn.fit.start;omega
  ·rw[dG]at t
   cases hq:g.R[k]? with
   | none=>rw[hq]at t;cases t
   | some r=>rw[hq]at t;exact(h.gn.fit.right r (mG hq) x t).1)
 clear h hc;generalize ae:(g.AX k).1=rl at *;generalize af:g.right k=T at *;generalize g.next (k,d)=nx at *;generalize g.R.length=nR at *;generalize g.nt=nt at *;generalize g.nn=nn at *;generalize g.s=gs at *;clear ae af;have a6:∀x∈T,1<=x:=a8.out;have a7:=Hd a6;clear a6;go_enter Tryz.func183,Tryz.ntmps183
 go_upto_region 1 with fail
 have hW:∃W,W=w.alloc (nO #[k,d] 256):=⟨_,rfl⟩
 have y0:=(o.cell (p:=⟨j,0,nK⟩) a0).trans z0;have y1:=(o.cell (p:=⟨j,1,nK⟩) a0).trans z1;have y2:=(o.cell (p:=⟨j,2,nK⟩) a0).trans z2;have y3:=(o.cell (p:=⟨j,3,nK⟩) a0).trans z3;have x0:=U.cell 0;have x1:=U.cell 1;simp only[List.getElem?_toArray,List.getElem?_cons_zero,List.getElem?_cons_succ]at x0 x1;have ag:w.heap.size<(w.alloc (nO #[k,d] 256)).heap.size:=by simp
 clear z0 z1 z2 z3 hW;generalize w.alloc (nO #[k,d] 256)=i at *;have a9:=Hd (HR i.drew o.drew);have aa:=Hd (HR ((i.alloc (nO #[nE nM 0,nC nK 0 0] 145)).drew) ((o.alloc mR _).drew));have HZ:Hid (Ah (i.alloc (nO #[nE nM 0,nC nK 0 0] 145)).drew i.heap.size 145 #[nE nM 0,nC nK 0 0]):=Hd (Ah.drew (Ah.newAt rfl));have ai:j<i.heap.size:=by omega
 go_region_law (first
  | (
    go_simp;go_at_call 80;first
      | (
        with_reducible refine a9.out.mono ?_
        rintro e w2 ⟨A,c,rfl,p,l⟩;have HN:=Hd p;have I:=Hd (o.drew.trans (l.mono (by show w.heap.size<=i.heap.size;omega)));have J:=Hd (Ah.below (g:=w.heap.size) (Ah.drew U) l ag);have ad:=J.lt;have k0:=J.cell 0;have k1:=J.cell 1;simp at k0 k1;clear l p)
      | (
        with_reducible refine aa.out.mono ?_
        rintro e w2 ⟨A,c,rfl,p,l⟩;have HN:=Hd p;have I:=Hd (((o.alloc mR (nO #[nE nM 0,nC nK 0 0] 145)).drew).trans (l.mono mX));have J:=Hd (Ah.below (g:=w.heap.size) (Ah.drew (Ah.alloc U (nO #[nE nM 0,nC nK 0 0] 145))) l mX);have P:=Hd (HZ.below l HZ.lt);have ad:=J.lt;have k0:=J.cell 0;have k1:=J.cell 1;have j0:=P.cell 0;have j1:=P.cell 1;have j2:=P.frozen 0;have j3:=P.frozen 1;simp at k0 k1 j0 j1;clear l p)))
 all_goals (
  by_cases ab:d<T.length
  ·obtain⟨x,a2⟩:∃x,T[d]?=nJ x:=⟨_,eG ab⟩
   obtain⟨⟨A',c',e',a4⟩,-,-⟩:=HN.out;cases e'
   obtain⟨b2,R,rfl,l,a1⟩:=a4 d x a2;have an:=a7 x (mG a2);have a3:nx=x:=by rw[HV.out,dG,a2];rfl
   have a1:nQ w2 (b2,R+d)=nJ (nE nM x):=a1;subst a3;clear a4 a2;have al:(d:Int)<(T.length:Int):=by omega
   try (
     have a5:b2≠i.heap.size:=by
       rintro rfl;have C:=P.cell (R+d);rw[a1]at C
       match hq:R+d,C with
       | 0,C=>simp at C;omega
       | 1,C=>simp at C
       | n+2,C=>simp at C
     have ak:((w2.setCell (i,0) rl).setCell (i,1) (nC (b2,R) T.length c)).cell? (b2,R+d)=nJ (nE nM nx):=(Te (p:=⟨i.heap.size,1,nK⟩) a5).trans ((Te (p:=⟨i.heap.size,0,nK⟩) a5).trans a1))
   go_wp2_with fail
   go_ret;first
     | exact⟨rfl,I.alloc I.size _⟩
     | exact⟨rfl,(I.setCell (p:=⟨i.heap.size,0,nK⟩) (by show w.heap.size<=i.heap.size;omega) _).setCell (p:=⟨i.heap.size,1,nK⟩) (by show w.heap.size<=i.heap.size;omega) _⟩
  ·have a3:nx=0:=by rw[HV.out,dG,nG mR];rfl
   subst a3;go_wp2_with fail
   go_ret;first
     | exact⟨rfl,I.alloc I.size _⟩
     | exact⟨rfl,(I.setCell (p:=⟨i.heap.size,0,nK⟩) (by show w.heap.size<=i.heap.size;omega) _).setCell (p:=⟨i.heap.size,1,nK⟩) (by show w.heap.size<=i.heap.size;omega) _⟩)
def KI(w:nS)(l:List It)(o:nU)(wr:nS):Prop:=∃A c,o=nC A l.length c/\wr.ownsRow w 256 2 (nC A l.length c) l.length (l.flatMap Bf)/\Below w w wr
def KI.later{wr w2:nS}{o:nU}(h:KI w l o wr)(j:Below wr wr w2):KI w l o w2:=by obtain⟨A,c,t,p,i⟩:=h;exact⟨A,c,t,AV p j,i.trans (j.mono i.size)⟩
def jH{wr w2:nS}{A:Option Addr}(i:Below w w wr)(j:w2.ownsRow w 256 2 (nC A (l.length+1) c) (l.length+1) (l.flatMap Bf++Bf x))(o:AI w [256] wr w2):KI w (l++[x]) (nC A (l.length+1) c) w2:=
 ⟨A,c,mV,by simpa using j,i.trans (o.below i.size)⟩
def O7(x:It)(y:nS):Ba (y.alloc (nO #[x.1,x.2] 256)) (nC (y,0) 1 1) 1 2 (Bf x):=
 Ba.Ap (c:=1) (cs:=Bf x) (Ah.new y 256 _) rfl (fun u i=>by unfold Bf at i;simp at i;rcases i with rfl|rfl<;>rfl)
def Lh(g:Gz)(s:Nat):(g.CF s).length<=g.R.length:=by unfold Gz.CF;exact AY (List.length_filter_le _ _) mV
def lh{l:Nat}(h:BG w l v g){s:Nat}:() 182 #[(l,0),s] w fun e w'=>∃o,e=nP o/\KI w (g.Eg s) o w':=by
 have HO:=Hd (kN h.gn s);have ag:=Lh g s;have ah:=h.gn.fit.nr;have U:g.Eg s=(g.CF s).map fun k=>(k,0):=rfl
 have a8:=Hd U;obtain⟨AT,cT,AN,cN,AR,cR,rfl,I,ae⟩:=h.gn.open_;obtain⟨z0,z1,z2,z3⟩:nQ w (l,0)=nJ (nC AT g.nt cT)/\nQ w (l,1)=nJ (nC AN g.nn cN)/\nQ w (l,2)=nJ (nC AR g.R.length cR)/\nQ w (l,3)=nJ (nE nM g.s):=⟨h.cell 0 mR,h.cell 1 mR,h.cell 2 mR,h.cell 3 mR⟩
 clear h I U;generalize g.Eg s=L at *;generalize g.CF s=j at *;have af:j.length<=300:=by omega
 go_enter Tryz.func182,Tryz.ntmps182
 go_wp2_with (
      go_at_call 106;refine HO.mono ?_;rintro e w1 ⟨o,rfl,A,c,rfl,hr,hb⟩
      have a3:w1.ownsRow w 3 1 (nC A j.length c) j.length (j.map AS):=by simpa using hr
      have HN:=Hd a3;have HB:=Hd hb;simp only[lM]at *;clear hr hb a3)
 go_loopw [5,15] (fun o i wr=>∃k:Nat,k<=j.length/\i=nE nM k/\Hid (KI w ((j.take k).map fun k=>(k,0)) o wr)/\Hid (wr.ownsRow w 3 1 (nC A j.length c) j.length (j.map AS))) (fun _ i _=>j.length-(intOf i).toNat)
 case atStart=>exact⟨0,A0 _,rfl,Hd ⟨nK,0,rfl,⟨rfl,.inl ⟨rfl,rfl⟩⟩,HB⟩,HN⟩
 case round=>
  obtain⟨k,hk,rfl,p,C⟩:=hrel;by_cases ad:k<j.length
  ·obtain⟨x,J⟩:∃x,j[k]?=nJ x:=⟨_,eG ad⟩
   obtain⟨b,rfl,a1⟩:∃b,A=nJ ⟨b,0,nK⟩/\nQ wr ⟨b,k,nK⟩=nJ (nE nM x):=by
    obtain⟨⟨A',c',e,I⟩,-,-⟩:=G4 C mR;obtain⟨b,off,hA,-,a1⟩:=I k x J;cases e
    rcases Bg C.out with⟨-,T⟩|⟨b3,c3,T,-⟩
    ·omega
    ·cases T
     cases hA
     exact⟨_,rfl,by simpa [AS] using a1⟩
   obtain⟨A2,c2,ho,a4,a0⟩:=p.out;have a5:j.take (k+1)=j.take k++[x]:=by rw[List.take_add_one,J];rfl
   have ab:((j.take k).map fun k=>((k,0):It)).length=k:=by simp;omega
   have aa:=Hd a5;have a9:=Hd a4;have t:=Hd a0;have HS:=Hd (O7 (x,0));subst ho;clear J a5 p a4 a0;generalize a2:((j.take k).map fun k=>((k,0):It))=P at *;have a7:=Hd a2;clear a2;go_wp2_with (
       at_builtin;refine Du Pr (.tmp 19) (.tmp 22) rfl rfl (base:=w.heap.size) (n:=P.length) (m:=1) (N:=P.length+1) (xs:=P.flatMap Bf) (news:=Bf (x,0)) rfl rfl (a9.alloc _) (HS _) rfl mW mR (by have:=t.size;simp;omega) ?_
       intro A3 c3 w3 r1 R r3;have HF:=Hd (jH (t.trans ((AE wr _).mono t.size)) r1 R);have a6:=Hd (R.own (AV C (AE wr _)) (.inr mT));clear r1 R r3)
   go_roundw
   case rel=>exact⟨k+1,mR,mY,Hd (by rw[aa.out,Bz,a7.out];have:=HF.out;rw[ab]at this;exact this),a6⟩
   case measure=>simp[intOf];omega
  ·obtain rfl:k=j.length:=by omega
   rw[List.take_length]at p;go_wp2_with fail
   go_ret;exact⟨_,rfl,by rw[a8.out];exact p⟩
def BN:List It->List It
 | []=>[]
 | [x]=>[x]
 | x::y::l=>if x=y then BN (y::l) else x::BN (y::l)
theorem PE:∀(l:List It) (y x:It),BN (l++[y]++[x])=if y=x then BN (l++[y]) else BN (l++[y])++[x]
 | [],y,x=>by
  show BN [y,x]=_;rw[BN];split
  ·rename_i h;rw[h];rfl
  ·rfl
 | [a],y,x=>by
  show BN [a,y,x]=_;have h:=PE [] y x;simp only[List.nil_append,List.singleton_append]at h;show (if a=y then BN [y,x] else a::BN [y,x])=if y=x then(if a=y then BN [y] else a::BN [y]) else(if a=y then BN [y] else a::BN [y])++[x]
  rw[h];split<;>split<;>rfl
 | a::b::l,y,x=>by
  have h:=PE (b::l) y x;have i:∀m:List It,BN (a::b::m)=if a=b then BN (b::m) else a::BN (b::m):=fun m=>rfl
  simp only[List.cons_append]at h ⊢;rw[i,i,h];split<;>split<;>rfl
theorem ON:∀l:List It,(BN l).length<=l.length
 | []=>AF _
 | [x]=>AF _
 | x::y::l=>by
  have h:=ON (y::l);unfold BN;split
  ·simp at h ⊢;omega
  ·simp at h ⊢;omega
def Ss{j:Nat}{y:It}(p:l[j+1]?=nJ x)(t:l[j]?=nJ y):BN (l.take (j+2))=if y=x then BN (l.take (j+1)) else BN (l.take (j+1))++[x]:=by
 have i:l.take (j+1)=l.take j++[y]:=by rw[List.take_add_one,t];rfl
 have o:l.take (j+2)=l.take j++[y]++[x]:=by rw[<-i,show j+2=(j+1)+1 by omega,List.take_add_one,p];rfl
 rw[o,i];exact PE _ _ _
def S4(x y:It)(w:nS):(Op.equalIn 10000 256 (CH x) (CH y)).run Tryz.prog w=.ok (decide (x=y)) w:=by
 have u3:=Tryz.underlying3;have p:=Tryz.isAgg3;have t:=Tryz.sizeOf3;have l:Tryz.prog.underlying 256=nJ (.struct (Tryz.prog.fieldsOf 256)):=by kernel_rfl
 have o:Tryz.prog.stoodInHeld 256=false:=by kernel_rfl
 obtain⟨a,b⟩:=x;obtain⟨c,d⟩:=y;unfold CH;simp only;rw[show (10000:Nat)=9999+1 from rfl,run_equalIn_agg w 9999 256 _ _ l o];simp only[Program.fieldsOf,Tryz.underlying256];go_simp;by_cases i:a=c<;>by_cases j:b=d<;>simp[i,j]<;>omega
def Ry(x y:It)(w:nS):(binOp .eql 256 (CH x) (CH y)).run Tryz.prog w=.ok (.bool (decide (x=y))) w:=by show (binOp .eql 256 (.agg _) (.agg _)).run Tryz.prog w=_;rw[run_eql_struct];have h:=S4 x y w;unfold CH at h;rw[h];rfl
def kR(x y:It)(w:nS):(binOp .neq 256 (CH x) (CH y)).run Tryz.prog w=.ok (.bool (!decide (x=y))) w:=by show (binOp .neq 256 (.agg _) (.agg _)).run Tryz.prog w=_;rw[run_neq_struct];have h:=S4 x y w;unfold CH at h;rw[h];rfl
def O4(op:BinOp)(a b:Operand)(x y:It)(w:nS):(eqGuard op 256 a b (CH x) (CH y)).run Tryz.prog w=.ok () w:=run_eqGuard_agg w op 256 a b _ _ mU
abbrev DI(w:nS)(B g n c:Nat)(r:List It):Prop:=w.ownsRow B 256 2 (nC (g,0) n c) n (r.flatMap Bf)
def Me(r:List It):(r.flatMap Bf).length=r.length*2:=LB Bf 2 (fun _=>rfl) r
def JZ{g:Nat}(h:DI w B g n c r):r.length=n:=by have:=h.1;rw[Me]at this;omega
def YZ{g:Nat}(h:DI w B g n c r)(p:r[k]?=nJ x):nQ w (g,k*2)=nJ (nE nM x.1)/\nQ w (g,k*2+1)=nJ (nE nM x.2):=by obtain⟨l,o⟩:=sG.1 p;have t:=JZ h;have i:=CR Bf 2 (fun _=>rfl) r k 0 l mR;have j:=CR Bf 2 (fun _=>rfl) r k 1 l mR;rw[o,Nat.add_zero]at i;rw[o]at j;exact⟨by rw[Bb h (k*2) mR,i];rfl,by rw[Bb h (k*2+1) mR,j];rfl⟩
theorem kF(r:List It)(k:Nat)(x:It)(i:k<r.length):((r.flatMap Bf).set (k*2) x.1).set (k*2+1) x.2=(r.set k x).flatMap Bf:=by
 induction r generalizing k with
 | nil=>simp at i
 | cons a r l=>
  cases k with
  | zero=>rfl
  | succ k=>
   have j:(k+1)*2=k*2+2:=by omega
   have h:=l k (by simpa using i);rw[List.flatMap_cons,List.set_cons_succ,List.flatMap_cons,<-h,j];rfl
def cD{g:Nat}(h:DI w B g n c r)(l:k<n)(x:It):DI ((w.setCell (g,k*2) x.1).setCell (g,k*2+1) x.2) B g n c (r.set k x):=by have j:=Gl h (k*2) mR x.1;have i:=Gl j (k*2+1) mR x.2;rw[kF r k x (by rw[JZ h];exact l)]at i;exact i
theorem UC(h:l.length<2):BN l=l:=by
 match l,h with
 | [],_=>rfl
 | [x],_=>rfl
 | x::y::l,h=>simp at h;omega
theorem Ux{B:Nat}{e:TypeId}{size n c g:Nat}:∀(i:List nU) (w:nS) (xs:List nU) (o:Nat),w.ownsRow B e size (nC (g,0) n c) n xs->o+i.length<=n*size ->
  ∃j,(w.setCells g o i).ownsRow B e size (nC (g,0) n c) n j/\j.take o=xs.take o/\Aj (·=g) w (w.setCells g o i)
 | [],w,xs,o,h,_=>⟨xs,h,rfl,Aj.refl _ _⟩
 | z::i,w,xs,o,h,t=>by have C:=Gl h o (by simp at t;omega) z;obtain⟨j,I,J,P⟩:=Ux i _ _ (o+1) C (by simp at t ⊢;omega);refine⟨j,I,?_,((Aj.refl (·=g) w).set (p:=⟨g,o,nK⟩) (.inr rfl) z).next P⟩;have p:=congrArg (fun l=>l.take o) J;simp only[List.take_take,Nat.min_eq_left (by omega:o<=o+1)]at p;rw[p,List.take_set_of_le mR]
def ZL{P:Program}{t e:TypeId}{z:nU}(w:nS)(ht:P.underlying t=nJ (.slice e))(hv:∀w,(zeroValue e).run P w=.ok z w){a b:nU}(J:z.cells=#[a,b])(C:a.oneCell'=true/\b.oneCell'=true)(g o n c:Nat)(hn:0<n)
  (T:∀j,j<n*2->(nQ w (g,o+j)).isSome=true) (U:∀j,j<n*2->w.frozen? (g,o+j)=false) (ty:TypeId) :
  ∃R:List nU,R.length=n*2/\(Builtin.clear_ #[t] ty #[nC (g,o) n c]).run P w=.ok (.tuple #[]) (w.setCells g o R):=by
 have l:(Builtin.zeroCells z.cells n).toList.length=n*2:=by rw[J];simp[Builtin.zeroCells]
 refine⟨(Builtin.zeroCells z.cells n).toList,l,?_⟩;have a0:∀v∈(Builtin.zeroCells z.cells n).toList,v.oneCell'=true:=by
  intro v p;rw[J]at p;simp[Builtin.zeroCells]at p;obtain⟨i,hi,rfl⟩:=p;have:i%2=0\/i%2=1:=by omega
  rcases this with h|h<;>rw[h]
  ·exact C.1
  ·exact C.2
 have I:=run_storeCells_cells (P:=P) g o (Builtin.zeroCells z.cells n).toList 0 w (by rw[l];simpa using T) (by rw[l];simpa using U) a0;simp only[Nat.add_zero]at I;obtain⟨m,rfl⟩:∃m,n=m+1:=⟨n-1,mR⟩
 simp[Builtin.clear_,run_underlying ht,hv,I]
def kM(w:nS):(zeroValue 256).run Tryz.prog w=.ok (.agg #[nE nM 0,nE nM 0]) w:=Tryz.zeroValue256 w
def Vh(w:nS)(B g n c:Nat)(l:List It)(e:Ending)(w':nS):Prop:=e=nP (nC (g,0) (BN l).length c)/\DI w' B g (BN l).length c (BN l)/\Aj (·=g) w w'
def M7{g:Nat}(h:DI w B g n c r)(q:Nat):DI (w.drewN q) B g n c r:=AV h ⟨rfl,rfl,rfl,AF _,fun _ _=>rfl⟩
def Wg{g:Nat}(h:DI w B g n c l)(hn:n<=100000)(ax:n<=c):() 214 #[nC (g,0) n c] w (Vh w B g n c l):=by
 have hl:=JZ h;have HR:=Hd h;have HF:Hid (∀(y:nS) (r:List It),DI y B g n c r->∀(k:Nat) (x:It),r[k]?=nJ x->(nQ y (g,k*2)=nJ (nE nM x.1)/\nQ y (g,k*2+1)=nJ (nE nM x.2))/\y.frozen? (g,k*2)=false/\y.frozen? (g,k*2+1)=false):=Hd (fun y r U k x J=>⟨YZ U J,GU U _,GU U _⟩);unfold Vh;by_cases h2:n<2
 ·have hd:=UC (l:=l) mR
  have HD:=Hd hd;clear h;go_enter Tryz.func214,Tryz.ntmps214
  go_wp2_with fail
  go_ret;exact⟨by rw[HD.out,hl];rfl,by rw[HD.out,hl];exact HR,Aj.refl _ _⟩
 ·clear h
  go_enter Tryz.func214,Tryz.ntmps214
  go_wp2_with fail
  go_loopw [3] (fun a1 wr=>∃k q:Nat,1<=k/\k<=n/\a1=nE nM k/\wr=w.drewN q/\Hid (BN (l.take k)=l.take k)) (fun a1 _=>n-(intOf a1).toNat)
  case atStart=>exact⟨1,0,AF _,mR,rfl,rfl,Hd (UC (by rw[List.length_take];omega))⟩
  case round=>
   obtain⟨k,q,ai,hk,rfl,rfl,HD⟩:=hrel;by_cases av:k<n
   ·obtain⟨⟨xa,xb⟩,J⟩:∃x,l[k]?=nJ x:=⟨_,eG mR⟩
    obtain⟨⟨ya,yb⟩,U⟩:∃x,l[k-1]?=nJ x:=⟨_,eG mR⟩
    obtain⟨⟨c0,c1⟩,-⟩:=HF w l HR k _ J;obtain⟨⟨d0,d1⟩,-⟩:=HF w l HR (k-1) _ U;have HT:Hid (BN (l.take (k+1))=if (ya,yb)=(xa,xb) then BN (l.take k) else BN (l.take k)++[(xa,xb)]):=Hd (by have:=Ss (l:=l) (j:=k-1) (x:=(xa,xb)) (y:=(ya,yb)) (by rw[show k-1+1=k by omega];exact J) U;rwa [show k-1+2=k+1 by omega,show k-1+1=k by omega]at this)
    have a8:l.take (k+1)=l.take k++[(xa,xb)]:=by rw[List.take_add_one,J];rfl
    have af:=Hd a8;have HX:=Hd J;have heq:=fun y=>Ry (xa,xb) (ya,yb) y
    have a0:=fun y op a b=>O4 op a b (xa,xb) (ya,yb) y
    unfold CH at heq a0;simp only at c0 c1 d0 d1 heq a0;have i1:(0:Int)<=(k:Int)-1:=by omega
    have i2:(k:Int)<(n:Int):=by omega
    have i3:(k:Int)-1<(n:Int):=by omega
    clear J U a8;by_cases p:((xa,xb):It)=(ya,yb)
    ·have T:decide (((xa,xb):It)=(ya,yb))=true:=decide_eq_true p
     rw[T]at heq;have a2:Hid (BN (l.take (k+1))=l.take k):=Hd (by rw[HT.out,if_pos p.symm,HD.out]);have an:¬(c=k):=by omega
     clear HT p T;go_upto_region 6 with fail
     go_quiet (fail)
     have ae:=Hd (M7 HR (q+nq));have ad:Hid (Aj (·=g) w (w.drewN (q+nq))):=Hd (Aj.AJ ⟨rfl,rfl,rfl,AF _,fun _ _=>rfl⟩);clear heq a0 c0 c1 d0 d1;go_wp2_with fail
     go_loopw [3,5] (fun a1 i2 wr=>∃(o i:Nat) (r:List It),a1=nE nM o/\i2=nE nM i/\1<=i/\k+i<=n/\o<k+i/\1<=o/\Hid (DI wr B g n c r)/\Hid (Aj (·=g) w wr)/\Hid (r.take o=BN (l.take (k+i))/\o=(BN (l.take (k+i))).length/\∀j,k+i-1<=j->r[j]?=l[j]?)) (fun _ i2 _=>n-(intOf i2).toNat)
     case atStart=>exact⟨k,1,l,rfl,rfl,AF _,mR,mR,ai,ae,ad,Hd ⟨by rw[a2.out],by rw[a2.out,List.length_take];omega,fun _ _=>rfl⟩⟩
     case round=>
      obtain⟨o,i,r,rfl,rfl,h1,au,aq,aj,R,a5,I⟩:=hrel;rename nS=>P
      by_cases aw:k+i<n
      ·obtain⟨⟨t,C⟩,J⟩:∃x,l[k+i]?=nJ x:=⟨_,eG mR⟩
       obtain⟨⟨ra,rb⟩,U⟩:∃x,l[k+i-1]?=nJ x:=⟨_,eG mR⟩
       obtain⟨oo,ho⟩:∃x,r[o]?=nJ x:=⟨_,eG (by rw[JZ R.out];omega)⟩
       obtain⟨⟨c0,c1⟩,-⟩:=HF P r R (k+i) _ ((I.2.2 _ mR).trans J);obtain⟨⟨d0,d1⟩,-⟩:=HF P r R (k+i-1) _ ((I.2.2 _ mR).trans U);obtain⟨⟨o0,o1⟩,f0,f1⟩:=HF P r R o _ ho;rw[show (k+i)*2=k*2+i*2 by omega]at c0 c1;rw[show (k+i-1)*2=k*2+(i-1)*2 by omega]at d0 d1;have HT:Hid (BN (l.take (k+i+1))=if (ra,rb)=(t,C) then BN (l.take (k+i)) else BN (l.take (k+i))++[(t,C)]):=Hd (by have:=Ss (l:=l) (j:=k+i-1) (x:=(t,C)) (y:=(ra,rb)) (by rw[show k+i-1+1=k+i by omega];exact J) U;rwa [show k+i-1+2=k+i+1 by omega,show k+i-1+1=k+i by omega]at this)
       have ak:=Hd J;have heq:=fun y=>kR (t,C) (ra,rb) y
       have a0:=fun y op a b=>O4 op a b (t,C) (ra,rb) y
       unfold CH at heq a0;simp only at c0 c1 d0 d1 heq a0;have j1:(0:Int)<=(i:Int)-1:=by omega
       have j2:(i:Int)<((n-k:Nat):Int):=by omega
       have j3:(i:Int)-1<((n-k:Nat):Int):=by omega
       have j4:(o:Int)<(n:Int):=by omega
       clear J U ho;by_cases p:((t,C):It)=(ra,rb)
       ·have T:(!decide (((t,C):It)=(ra,rb)))=false:=by rw[decide_eq_true p];rfl
        rw[T]at heq;have a6:Hid (r.take o=BN (l.take (k+(i+1)))/\o=(BN (l.take (k+(i+1)))).length/\∀j,k+(i+1)-1<=j->r[j]?=l[j]?):=Hd (by rw[show k+(i+1)=k+i+1 by omega,HT.out,if_pos p.symm];exact⟨I.1,I.2.1,fun j hj=>I.2.2 j mR⟩)
        clear HT p T I;go_upto_region 11 with fail
        go_quiet (fail)
        have a7:=Hd (M7 R nq);have a4:Hid (Aj (·=g) w (P.drewN nq)):=Hd (a5.next (Aj.AJ ⟨rfl,rfl,rfl,AF _,fun _ _=>rfl⟩));clear heq a0;go_wp2_with fail
        go_roundw
        case rel=>exact⟨o,i+1,r,rfl,mY,mR,mR,mR,aj,a7,a4,a6⟩
        case measure=>simp[intOf];omega
       ·have T:(!decide (((t,C):It)=(ra,rb)))=true:=by rw[decide_eq_false p];rfl
        rw[T]at heq;have a6:Hid ((r.set o (t,C)).take (o+1)=BN (l.take (k+(i+1)))/\o+1=(BN (l.take (k+(i+1)))).length/\∀j,k+(i+1)-1<=j->(r.set o (t,C))[j]?=l[j]?):=Hd (by
         have ay:=JZ R;rw[show k+(i+1)=k+i+1 by omega,HT.out,if_neg (fun e=>p e.symm)];refine⟨?_,?_,fun j hj=>?_⟩
         ·rw[List.take_add_one,tG mR,List.take_set_of_le (AF _),I.1]
          rfl
         ·rw[BS,<-I.2.1];rfl
         ·rw[uG mR]
          exact I.2.2 j mR)
        clear HT p T I;go_upto_region 11 with fail
        go_quiet (fail)
        have a7:=Hd (cD (M7 R nq) (k:=o) mR (t,C));have a4:Hid (Aj (·=g) w (((P.drewN nq).setCell (g,o*2) t).setCell (g,o*2+1) C)):=Hd (((a5.next (Aj.AJ (a:=P) (b:=P.drewN nq) ⟨rfl,rfl,rfl,AF _,fun _ _=>rfl⟩)).set (p:=⟨g,o*2,nK⟩) (.inr rfl) _).set (p:=⟨g,o*2+1,nK⟩) (.inr rfl) _);clear heq a0;go_wp2_with fail
        go_roundw
        case rel=>exact⟨o+1,i+1,r.set o (t,C),mY,mY,mR,mR,mR,mR,a7,a4,a6⟩
        case measure=>simp[intOf];omega
      ·have ah:k+i=n:=by omega
       have ar:o<n:=by omega
       have ao:¬(c=o):=by omega
       obtain⟨zs,az,al⟩:=ZL (P:=Tryz.prog) (t:=148) (e:=256) (z:=.agg #[nE nM 0,nE nM 0]) P Tryz.underlying148 kM (a:=nE nM 0) (b:=nE nM 0) rfl ⟨rfl,rfl⟩ g (o*2) (n-o) (c-o) mR (fun j hj=>by have ag:=Bb R (o*2+j) mR;rw[ag,Option.isSome_iff_exists];exact⟨_,eG (by rw[Me,JZ R.out];omega)⟩) (fun j hj=>GU R _) 0
       obtain⟨b0,a9,aa,ab⟩:=Ux zs P _ (o*2) R mR;have a3:Hid (DI (P.setCells g (o*2) zs) B g o c (BN l)/\(BN l).length=o/\Aj (·=g) w (P.setCells g (o*2) zs)):=Hd (by obtain⟨t1,t2,-⟩:=I.out;rw[ah,<-hl,List.take_length]at t1 t2;refine⟨?_,t2.symm,a5.next ab⟩;have hz:=Y7 a9 (k:=o) mR;rw[aa,iN Bf 2 (fun _=>rfl),t1]at hz;exact hz)
       clear a9 aa ab I;generalize P.setCells g (o*2) zs=W9 at *;have j4:(o:Int)<(n:Int):=by omega
       have j5:(o:Int)<=(n:Int):=by omega
       have j6:(0:Int)<=(o:Int):=by omega
       go_wp2_with fail
       go_ret;exact⟨by rw[a3.2.1];rfl,by rw[a3.2.1];exact a3.1,a3.2.2⟩
    ·have T:decide (((xa,xb):It)=(ya,yb))=false:=decide_eq_false p
     rw[T]at heq;have a2:Hid (BN (l.take (k+1))=l.take (k+1)):=Hd (by rw[HT.out,if_neg (fun e=>p e.symm),HD.out,af.out]);clear HT p T;go_upto_region 6 with fail
     go_quiet (fail)
     go_wp2_with fail
     go_roundw
     case rel=>exact⟨k+1,q+nq,mR,mR,mY,rfl,a2⟩
     case measure=>simp[intOf];omega
   ·obtain rfl:k=n:=by omega
    have HE:Hid (BN l=l):=Hd (by have:=HD.out;rwa [<-hl,List.take_length]at this);go_wp2_with fail
    go_ret;exact⟨by rw[HE.out,hl];rfl,by rw[HE.out,hl];exact M7 HR q,Aj.AJ ⟨rfl,rfl,rfl,AF _,fun _ _=>rfl⟩⟩
