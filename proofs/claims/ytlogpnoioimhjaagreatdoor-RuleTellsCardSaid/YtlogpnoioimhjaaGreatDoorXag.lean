/- Items. The symbol behind a dot. A nonterminal's items. Rows of items without those that stand t. slices. -/
import Derived.Test.YtlogpnoioimhjaaGreatDoorXaf
import Derived.Deep.RegionHeld3
import Derived.Laws.StructEq
import Derived.Lib.SliceRun
import Derived.Test.YtlogpnoioimhjaaGreatDoorXaa
import Derived.Test.YtlogpnoioimhjaaGreatDoorXnm
set_option linter.all false
set_option maxRecDepth 100000
set_option maxHeartbeats 16000000
namespace Go.Proofs.YtlogpnoioimhjaaGreatDoor
open Go.RowKit
variable{w':World}{B c n:Nat}{r:List It}
def Bc(x:It):List Value:=[.int .i64 x.1,.int .i64 x.2]
def CH(x:It):Value:=.agg #[x.1,x.2]
namespace Gz
def next(g:Gz)(x:It):Nat:=(g.right x.1).getD x.2 0
def En(g:Gz)(s:Nat):List It:=(g.CD s).map fun k=>(k,0)
end Gz
structure CM(w:World)(v:Value)(l:List It):Prop where
 Gd:∃A c,v=.slice A l.length c/\∀k x,l[k]?=some x->∃b off,A=some ⟨b,off,none⟩/\b<w.heap.size/\w.cell? ⟨b,off+k*2,none⟩=some (.int .i64 x.1)/\w.cell? ⟨b,off+k*2+1,none⟩=some (.int .i64 x.2)
 short:l.length<=4611686018427387904
 room:∀A n c,v=.slice A n c->n<=c/\(A=none->c=0)
def CM.later{w:World}{v:Value}{l:List It}(h:CM w v l)(i:Below w w w'):CM w' v l:=by obtain⟨⟨A,c,P,C⟩,J,I⟩:=h;refine⟨⟨A,c,P,fun k x R=>?_⟩,J,I⟩;obtain⟨b,off,t,j,o,p⟩:=C k x R;exact⟨b,off,t,Ba j i.size,(i.cell (p:=⟨b,off+k*2,none⟩) j).trans o,(i.cell (p:=⟨b,off+k*2+1,none⟩) j).trans p⟩
def CM.own{w:World}{e:TypeId}{v:Value}{l:List It}(h:w.ownsRow B e 2 v l.length (l.flatMap Bc))(p:l.length<=4611686018427387904):CM w v l:=by
 rcases Bi h with⟨rfl,h0⟩|⟨b,c,rfl,J,t,C,P,_⟩
 ·exact⟨⟨none,0,by rw[h0],fun k x i=>by have:=(sG.1 i).1;omega⟩,p,fun A n c e=>by cases e;exact⟨AF _,fun _=>rfl⟩⟩
 ·refine⟨⟨_,c,rfl,fun k x i=>⟨b,0,rfl,t,?_,?_⟩⟩,p,fun A n I e=>by cases e;exact⟨C,fun e=>by cases e⟩⟩
  ·obtain⟨j,o⟩:=sG.1 i
   have:=CJ Bc 2 (fun _=>rfl) l k 0 j (by omega);rw[o,Nat.add_zero]at this;rw[Nat.zero_add,Bh h (k*2) (by omega),this];rfl
  ·obtain⟨j,o⟩:=sG.1 i
   have:=CJ Bc 2 (fun _=>rfl) l k 1 j (by omega);rw[o]at this;rw[Nat.zero_add,Bh h (k*2+1) (by omega),this];rfl
structure BG(w:World)(bb:Nat)(v:Value)(g:Gz):Prop where
 gn:GN w v g
 cell:∀j,j<4->w.cell? ⟨bb,j,none⟩=v.cells[j]?
variable{g:Gz}
def O8:El Tryz.prog 122 213 2 16:=El.of (z:=.agg #[.int .i64 0,.int .i64 0]) Tryz.underlying122 (by kernel_rfl) rfl (by decide)
def eI(w:World)(x y:It)(i:x.1<=100000/\x.2<=100000)(j:y.1<=100000/\y.2<=100000):() 185 #[CH x,CH y] w fun e w'=>e=.returned (.int .i64 (if x.1=y.1 then(x.2:Int)-y.2 else(x.1:Int)-y.1))/\w'=(w.alloc (.cells #[x.1,x.2] 213)).alloc (.cells #[y.1,y.2] 213):=by
 obtain⟨a,b⟩:=x;obtain⟨c,d⟩:=y;simp only at i j;unfold CH;simp only;by_cases h:a=c
 ·rw[if_pos h]
  subst h;go_enter Tryz.func185,Tryz.ntmps185
  go_wp2;go_ret;exact⟨by rfl,rfl⟩
 ·rw[if_neg h]
  have l:((a:Int) != (c:Int))=true:=by rw[bne_iff_ne];omega
  go_enter Tryz.func185,Tryz.ntmps185
  go_wp2;go_ret;exact⟨by rfl,rfl⟩
def eE{w:World}{v:Value}(h:GN w v g):() 150 #[v] w fun e w'=>e=.returned (.bool true)/\Below w w w':=by
 have l:=Hd (fun y (p:Below w w y)=>NM (h.later p));have J:=Hd (Ah.new w 58 v.cells);obtain⟨I,T,t,P,C,R,rfl,o,U⟩:=h.open_;clear h o;go_enter Tryz.func150,Tryz.ntmps150
 go_wp2_with (go_at_call 98;refine(l _ (AG _ _)).mono ?_;rintro e w' ⟨rfl,i⟩;have j:=Hd (Fv i);clear i)
 go_ret;exact⟨rfl,j⟩
def cM{w:World}{v:Value}(h:GN w v g):() 101 #[v] w fun e w'=>∃A c,e=.returned (.slice A 1 c)/\w'.ownsRow w 213 2 (.slice A 1 c) 1 (Bc (g.R.length,0))/\Below w w w':=by
 have C:=Hd (fun y (hy:Below w w y)=>eE (h.later hy));obtain⟨t,R,o,J,p,P,rfl,U,a0⟩:=h.open_;have l:=Hd (Ah.new w 58 #[.slice t g.nt R,.slice o g.nn J,.slice p g.R.length P,g.s]);clear h U;go_enter Tryz.func101,Tryz.ntmps101
 go_wp2_with (go_at_call 150;refine(C _ (AG _ _)).mono ?_;rintro e w1 ⟨rfl,j⟩;have i:=Hd (Fv j);have I:=Hd (l.below j l.lt);have T:=I.cell 2;simp at T;clear j)
 go_ret;refine⟨_,_,rfl,?_,i.alloc i.size _⟩;refine⟨rfl,.inr ⟨w1.heap.size,1,#[g.R.length,.int .i64 0],rfl,i.size,Ah.newAt rfl,by simp,by decide,rfl,rfl⟩⟩
def BG.later{w:World}{i:Nat}{v:Value}(h:BG w i v g)(l:Below w w w'):BG w' i v g:=by
 refine⟨h.gn.later l,fun j p=>?_⟩;have o:=h.cell j p;obtain⟨J,T,C,P,I,R,rfl,-⟩:=h.gn.open_;have t:i<w.heap.size:=by have h0:=h.cell 0 (by omega);exact World.block_lt_of_cell? w _ h0
 exact(l.cell (p:=⟨i,j,none⟩) t).trans o
structure FO(w:World)(v:Value)(V:List (Value×Value))(L E:List (List It)):Prop where
 Gd:∃A c,v=.slice A V.length c/\V.length<=c/\∀(k:Nat) (x:Value×Value),V[k]?=some x->∃b off,A=some ⟨b,off,none⟩/\b<w.heap.size/\w.cell? ⟨b,off+k*2,none⟩=some x.1/\w.cell? ⟨b,off+k*2+1,none⟩=some x.2
 len:L.length=V.length/\E.length=V.length
 items:∀(k:Nat) (x:Value×Value) (l:List It),V[k]?=some x->L[k]?=some l->CM w x.1 l
 trans:∀(k:Nat) (x:Value×Value) (l:List It),V[k]?=some x->E[k]?=some l->CM w x.2 l
 small:V.length<=100000
variable{w:World}{v:Value}{V:List (Value×Value)}{k:Nat}{l:List It}{x:It}
def FO.later{L E:List (List It)}(h:FO w v V L E)(i:Below w w w'):FO w' v V L E:=by obtain⟨⟨A,c,T,h0,R⟩,t,C,I,J⟩:=h;refine⟨⟨A,c,T,h0,fun k x U=>?_⟩,t,fun k x l a b=>(C k x l a b).later i,fun k x l a b=>(I k x l a b).later i,J⟩;obtain⟨b,off,P,j,o,p⟩:=R k x U;exact⟨b,off,P,Ba j i.size,(i.cell (p:=⟨b,off+k*2,none⟩) j).trans o,(i.cell (p:=⟨b,off+k*2+1,none⟩) j).trans p⟩
def Dx(t:List It)(s:Nat):Int:=match t.find? (fun x=>x.1==s) with|some x=>(x.2:Int)|none => -1
def YG(x:It)(t:List It)(s:Nat):Dx (x::t) s=if x.1=s then(x.2:Int) else Dx t s:=by
 unfold Dx;rw[List.find?_cons];by_cases h:x.1=s
 ·rw[if_pos h,show (x.1==s)=true by simp[h]]
 ·rw[if_neg h,show (x.1==s)=false by simp[h]]
def Tj{L E:List (List It)}(h:FO w v V L E){i s:Nat}(hi:i<V.length) :
  () 61 #[v,i,s] w fun e w'=>e=.returned (.int .i64 (Dx (E.getD i []) s))/\Below w w w':=by
 obtain⟨⟨A,c,rfl,a9,hc⟩,⟨a3,a4⟩,h2,h3,h4⟩:=h;obtain⟨x,R⟩:∃x,V[i]?=some x:=⟨_,eG hi⟩
 obtain⟨t,P⟩:∃t,E[i]?=some t:=⟨_,eG (by omega)⟩
 obtain⟨b,off,rfl,hb,c0,c1⟩:=hc i x R;obtain⟨⟨At,ct,a8,a1⟩,ab,a7⟩:=h3 i x t R P;have e:E.getD i []=t:=by rw[dG,P];rfl
 rw[e];rw[a8]at c1;have HC:=Hd a1;have aa:(i:Int)<(V.length:Int):=by omega
 obtain⟨r,J⟩:∃r,Dx t s=r:=⟨_,rfl⟩
 rw[J];have HR:=Hd J;clear a1 a7 h2 h3 R P hc J e a3 a4;generalize V.length=n at *;go_enter Tryz.func61,Tryz.ntmps61
 go_wp2_with fail
 go_loopw [23] (fun ii wr=>∃k:Nat,k<=t.length/\ii=.int .i64 k/\Hid (Below w w wr)/\Hid (Dx (t.drop k) s=r)) (fun ii _=>t.length-(intOf ii).toNat)
 case atStart=>exact⟨0,AX _,rfl,Hd (Below.refl _ _),HR⟩
 case round=>
  obtain⟨k,hk,rfl,l,HG⟩:=hrel;by_cases a5:k<t.length
  ·obtain⟨⟨U,tt⟩,T⟩:∃x,t[k]?=some x:=⟨_,eG a5⟩
   obtain⟨b2,a2,rfl,a0,C,I⟩:=HC k _ T;have C:=(l.cell (p:=⟨b2,a2+k*2,none⟩) a0).trans C;have I:=(l.cell (p:=⟨b2,a2+k*2+1,none⟩) a0).trans I;have j:=HG.out;rw[IQ T,YG]at j;simp only at j C I;clear T;by_cases p:U=s
   ·rw[if_pos p]at j
    have a6:((U:Int)==(s:Int))=true:=by rw[p];simp
    have o:=Hd j;clear j p;go_wp2_with fail
    go_ret;exact⟨by rw[<-o.out];rfl,l.trans ((AG _ _).mono l.size)⟩
   ·rw[if_neg p]at j
    have a6:((U:Int)==(s:Int))=false:=by rw[bN];omega
    have o:=Hd j;clear j p;go_wp2_with fail
    go_roundw
    case rel=>exact⟨k+1,by omega,by go_num,Hd (l.trans ((AG _ _).mono l.size)),o⟩
    case measure=>simp[intOf];omega
  ·obtain rfl:k=t.length:=by omega
   have j:=HG.out;rw[List.drop_length]at j;have o:Hid (-1=r):=Hd j;clear j;go_wp2_with fail
   go_ret;exact⟨by rw[<-o.out];rfl,l⟩
def PY{p:Addr}{u:Value}{b o:Nat}(h:b≠p.block):(w.setCell p u).cell? (b,o)=w.cell? (b,o):=World.cell?_of_block (Below.heap_setCell _ _ _ _ h)
def N9{j:Nat}(h:BG w j v g){d:Nat}(hk:k<=g.R.length)(hd:d<=100000):() 148 #[(j,0),.agg #[k,d]] w fun e w'=>e=.returned (.int .i64 (g.next (k,d):Nat))/\Below w w w':=by
 have HR:Hid (∀y,Below w w y->() 59 #[v,k] y fun e w'=>∃A c,e=.returned (.tuple #[.agg #[.int .i64 ((g.Bo k).1:Nat),.slice A (g.right k).length c],.bool true])/\BD w' (.slice A (g.right k).length c) (g.right k)/\Below y y w'):=Hd (fun y hy=>by refine(XD (h.gn.later hy) hk).mono ?_;rintro e w' ⟨rv,he,p,hb⟩;obtain⟨⟨A,c,rfl,-⟩,-,-⟩:=id p;exact⟨A,c,he,p,hb⟩)
 have ah:=Hd h;obtain⟨AT,cT,AN,cN,AR,cR,rfl,hc,aj⟩:=h.gn.open_;obtain⟨z0,z1,z2,z3⟩:w.cell? (j,0)=some (.slice AT g.nt cT)/\w.cell? (j,1)=some (.slice AN g.nn cN)/\w.cell? (j,2)=some (.slice AR g.R.length cR)/\w.cell? (j,3)=some (.int .i64 g.s):=⟨h.cell 0 (by omega),h.cell 1 (by omega),h.cell 2 (by omega),h.cell 3 (by omega)⟩
 have a0:j<w.heap.size:=World.block_lt_of_cell? w _ z0;have U:=Hd (Ah.new w 213 #[k,d]);have o:=Hd (AG w (.cells #[k,d] 213));have HV:Hid (g.next (k,d)=(g.right k).getD d 0):=Hd rfl;have a8:Hid (∀x∈g.right k,1<=x):=Hd (by
  intro x t;unfold Gz.right Gz.Bo at t;split at t
  ·simp at t
   have:=h.gn.fit.start;omega
  ·rw[dG]at t
   cases hq:g.R[k]? with
   | none=>rw[hq]at t;cases t
   | some r=>rw[hq]at t;exact(h.gn.fit.right r (mG hq) x t).1)
 clear h hc;generalize ae:(g.Bo k).1=rl at *;generalize af:g.right k=T at *;generalize g.next (k,d)=nx at *;generalize g.R.length=nR at *;generalize g.nt=nt at *;generalize g.nn=nn at *;generalize g.s=gs at *;clear ae af;have a6:∀x∈T,1<=x:=a8.out;have a7:=Hd a6;clear a6;go_enter Tryz.func148,Tryz.ntmps148
 go_upto_region 1 with fail
 have hW:∃W,W=w.alloc (.cells #[k,d] 213):=⟨_,rfl⟩
 have y0:=(o.cell (p:=⟨j,0,none⟩) a0).trans z0;have y1:=(o.cell (p:=⟨j,1,none⟩) a0).trans z1;have y2:=(o.cell (p:=⟨j,2,none⟩) a0).trans z2;have y3:=(o.cell (p:=⟨j,3,none⟩) a0).trans z3;have x0:=U.cell 0;have x1:=U.cell 1;simp only[List.getElem?_toArray,List.getElem?_cons_zero,List.getElem?_cons_succ]at x0 x1;have ag:w.heap.size<(w.alloc (.cells #[k,d] 213)).heap.size:=by simp
 clear z0 z1 z2 z3 hW;generalize w.alloc (.cells #[k,d] 213)=i at *;have a9:=Hd (HR i.drew o.drew);have aa:=Hd (HR ((i.alloc (.cells #[.int .i64 0,.slice none 0 0] 119)).drew) ((o.alloc (by omega) _).drew));have HZ:Hid (Ah (i.alloc (.cells #[.int .i64 0,.slice none 0 0] 119)).drew i.heap.size 119 #[.int .i64 0,.slice none 0 0]):=Hd (Ah.drew (Ah.newAt rfl));have ai:j<i.heap.size:=by omega
 go_region_law (first
  | (
    go_simp;go_at_call 59;first
      | (
        with_reducible refine a9.out.mono ?_
        rintro e w2 ⟨A,c,rfl,p,l⟩;have HN:=Hd p;have I:=Hd (o.drew.trans (l.mono (by show w.heap.size<=i.heap.size;omega)));have J:=Hd (Ah.below (g:=w.heap.size) (Ah.drew U) l ag);have ad:=J.lt;have k0:=J.cell 0;have k1:=J.cell 1;simp at k0 k1;clear l p)
      | (
        with_reducible refine aa.out.mono ?_
        rintro e w2 ⟨A,c,rfl,p,l⟩;have HN:=Hd p;have I:=Hd (((o.alloc (by omega) (.cells #[.int .i64 0,.slice none 0 0] 119)).drew).trans (l.mono (by simp;omega)));have J:=Hd (Ah.below (g:=w.heap.size) (Ah.drew (Ah.alloc U (.cells #[.int .i64 0,.slice none 0 0] 119))) l (by simp;omega));have P:=Hd (HZ.below l HZ.lt);have ad:=J.lt;have k0:=J.cell 0;have k1:=J.cell 1;have j0:=P.cell 0;have j1:=P.cell 1;have j2:=P.frozen 0;have j3:=P.frozen 1;simp at k0 k1 j0 j1;clear l p)))
 all_goals (
  by_cases ab:d<T.length
  ·obtain⟨x,a2⟩:∃x,T[d]?=some x:=⟨_,eG ab⟩
   obtain⟨⟨A',c',e',a4⟩,-,-⟩:=HN.out;cases e'
   obtain⟨b2,R,rfl,l,a1⟩:=a4 d x a2;have an:=a7 x (mG a2);have a3:nx=x:=by rw[HV.out,dG,a2];rfl
   have a1:w2.cell? (b2,R+d)=some (.int .i64 x):=a1;subst a3;clear a4 a2;have al:(d:Int)<(T.length:Int):=by omega
   try (
     have a5:b2≠i.heap.size:=by
       rintro rfl;have C:=P.cell (R+d);rw[a1]at C
       match hq:R+d,C with
       | 0,C=>simp at C;omega
       | 1,C=>simp at C
       | n+2,C=>simp at C
     have ak:((w2.setCell (i,0) rl).setCell (i,1) (.slice (b2,R) T.length c)).cell? (b2,R+d)=some (.int .i64 nx):=(PY (p:=⟨i.heap.size,1,none⟩) a5).trans ((PY (p:=⟨i.heap.size,0,none⟩) a5).trans a1))
   go_wp2_with fail
   go_ret;first
     | exact⟨rfl,I.alloc I.size _⟩
     | exact⟨rfl,(I.setCell (p:=⟨i.heap.size,0,none⟩) (by show w.heap.size<=i.heap.size;omega) _).setCell (p:=⟨i.heap.size,1,none⟩) (by show w.heap.size<=i.heap.size;omega) _⟩
  ·have a3:nx=0:=by rw[HV.out,dG,nG (by omega)];rfl
   subst a3;go_wp2_with fail
   go_ret;first
     | exact⟨rfl,I.alloc I.size _⟩
     | exact⟨rfl,(I.setCell (p:=⟨i.heap.size,0,none⟩) (by show w.heap.size<=i.heap.size;omega) _).setCell (p:=⟨i.heap.size,1,none⟩) (by show w.heap.size<=i.heap.size;omega) _⟩)
def KS(w:World)(l:List It)(o:Value)(wr:World):Prop:=∃A c,o=.slice A l.length c/\wr.ownsRow w 213 2 (.slice A l.length c) l.length (l.flatMap Bc)/\Below w w wr
def KS.later{wr w2:World}{o:Value}(h:KS w l o wr)(j:Below wr wr w2):KS w l o w2:=by obtain⟨A,c,t,p,i⟩:=h;exact⟨A,c,t,AS p j,i.trans (j.mono i.size)⟩
def fZ{wr w2:World}{A:Option Addr}(i:Below w w wr)(j:w2.ownsRow w 213 2 (.slice A (l.length+1) c) (l.length+1) (l.flatMap Bc++Bc x))(o:AI w [213] wr w2):KS w (l++[x]) (.slice A (l.length+1) c) w2:=
 ⟨A,c,by simp,by simpa using j,i.trans (o.below i.size)⟩
def O0(x:It)(y:World):AY (y.alloc (.cells #[x.1,x.2] 213)) (.slice (y,0) 1 1) 1 2 (Bc x):=
 AY.Ap (c:=1) (cs:=Bc x) (Ah.new y 213 _) rfl (fun u i=>by unfold Bc at i;simp at i;rcases i with rfl|rfl<;>rfl)
def LY(g:Gz)(s:Nat):(g.CD s).length<=g.R.length:=by unfold Gz.CD;exact AW (List.length_filter_le _ _) (by simp)
def Zk{l:Nat}(h:BG w l v g){s:Nat}:() 147 #[(l,0),s] w fun e w'=>∃o,e=.returned o/\KS w (g.En s) o w':=by
 have HO:=Hd (V0 h.gn s);have ag:=LY g s;have ah:=h.gn.fit.nr;have U:g.En s=(g.CD s).map fun k=>(k,0):=rfl
 have a8:=Hd U;obtain⟨AT,cT,AN,cN,AR,cR,rfl,I,ae⟩:=h.gn.open_;obtain⟨z0,z1,z2,z3⟩:w.cell? (l,0)=some (.slice AT g.nt cT)/\w.cell? (l,1)=some (.slice AN g.nn cN)/\w.cell? (l,2)=some (.slice AR g.R.length cR)/\w.cell? (l,3)=some (.int .i64 g.s):=⟨h.cell 0 (by omega),h.cell 1 (by omega),h.cell 2 (by omega),h.cell 3 (by omega)⟩
 clear h I U;generalize g.En s=L at *;generalize g.CD s=j at *;have af:j.length<=300:=by omega
 go_enter Tryz.func147,Tryz.ntmps147
 go_wp2_with (
      go_at_call 146;refine HO.mono ?_;rintro e w1 ⟨o,rfl,A,c,rfl,hr,hb⟩
      have a3:w1.ownsRow w 3 1 (.slice A j.length c) j.length (j.map AV):=by simpa using hr
      have HN:=Hd a3;have HB:=Hd hb;simp only[lM]at *;clear hr hb a3)
 go_loopw [5,15] (fun o i wr=>∃k:Nat,k<=j.length/\i=.int .i64 k/\Hid (KS w ((j.take k).map fun k=>(k,0)) o wr)/\Hid (wr.ownsRow w 3 1 (.slice A j.length c) j.length (j.map AV))) (fun _ i _=>j.length-(intOf i).toNat)
 case atStart=>exact⟨0,AX _,rfl,Hd ⟨none,0,rfl,⟨rfl,.inl ⟨rfl,rfl⟩⟩,HB⟩,HN⟩
 case round=>
  obtain⟨k,hk,rfl,p,C⟩:=hrel;by_cases ad:k<j.length
  ·obtain⟨x,J⟩:∃x,j[k]?=some x:=⟨_,eG ad⟩
   obtain⟨b,rfl,a1⟩:∃b,A=some ⟨b,0,none⟩/\wr.cell? ⟨b,k,none⟩=some (.int .i64 x):=by
    obtain⟨⟨A',c',e,I⟩,-,-⟩:=Hu C (by omega);obtain⟨b,off,hA,-,a1⟩:=I k x J;cases e
    rcases Bi C.out with⟨-,T⟩|⟨b3,c3,T,-⟩
    ·omega
    ·cases T
     cases hA
     exact⟨_,rfl,by simpa [AV] using a1⟩
   obtain⟨A2,c2,ho,a4,a0⟩:=p.out;have a5:j.take (k+1)=j.take k++[x]:=by rw[List.take_add_one,J];rfl
   have ab:((j.take k).map fun k=>((k,0):It)).length=k:=by simp;omega
   have aa:=Hd a5;have a9:=Hd a4;have t:=Hd a0;have HS:=Hd (O0 (x,0));subst ho;clear J a5 p a4 a0;generalize a2:((j.take k).map fun k=>((k,0):It))=P at *;have a7:=Hd a2;clear a2;go_wp2_with (
       at_builtin;refine Dc O8 (.tmp 19) (.tmp 22) rfl rfl (base:=w.heap.size) (n:=P.length) (m:=1) (N:=P.length+1) (xs:=P.flatMap Bc) (news:=Bc (x,0)) rfl rfl (a9.alloc _) (HS _) rfl (by unfold maxLen;omega) (by omega) (by have:=t.size;simp;omega) ?_
       intro A3 c3 w3 r1 R r3;have HF:=Hd (fZ (t.trans ((AG wr _).mono t.size)) r1 R);have a6:=Hd (R.own (AS C (AG wr _)) (.inr (by decide)));clear r1 R r3)
   go_roundw
   case rel=>exact⟨k+1,by omega,by go_num,Hd (by rw[aa.out,By,a7.out];have:=HF.out;rw[ab]at this;exact this),a6⟩
   case measure=>simp[intOf];omega
  ·obtain rfl:k=j.length:=by omega
   rw[List.take_length]at p;go_wp2_with fail
   go_ret;exact⟨_,rfl,by rw[a8.out];exact p⟩
def BM:List It->List It
 | []=>[]
 | [x]=>[x]
 | x::y::l=>if x=y then BM (y::l) else x::BM (y::l)
theorem NP:∀(l:List It) (y x:It),BM (l++[y]++[x])=if y=x then BM (l++[y]) else BM (l++[y])++[x]
 | [],y,x=>by
  show BM [y,x]=_;rw[BM];split
  ·rename_i h;rw[h];rfl
  ·rfl
 | [a],y,x=>by
  show BM [a,y,x]=_;have h:=NP [] y x;simp only[List.nil_append,List.singleton_append]at h;show (if a=y then BM [y,x] else a::BM [y,x])=if y=x then(if a=y then BM [y] else a::BM [y]) else(if a=y then BM [y] else a::BM [y])++[x]
  rw[h];split<;>split<;>rfl
 | a::b::l,y,x=>by
  have h:=NP (b::l) y x;have i:∀m:List It,BM (a::b::m)=if a=b then BM (b::m) else a::BM (b::m):=fun m=>rfl
  simp only[List.cons_append]at h ⊢;rw[i,i,h];split<;>split<;>rfl
theorem Ob:∀l:List It,(BM l).length<=l.length
 | []=>AF _
 | [x]=>AF _
 | x::y::l=>by
  have h:=Ob (y::l);unfold BM;split
  ·simp at h ⊢;omega
  ·simp at h ⊢;omega
def Sq{j:Nat}{y:It}(p:l[j+1]?=some x)(t:l[j]?=some y):BM (l.take (j+2))=if y=x then BM (l.take (j+1)) else BM (l.take (j+1))++[x]:=by
 have i:l.take (j+1)=l.take j++[y]:=by rw[List.take_add_one,t];rfl
 have o:l.take (j+2)=l.take j++[y]++[x]:=by rw[<-i,show j+2=(j+1)+1 by omega,List.take_add_one,p];rfl
 rw[o,i];exact NP _ _ _
def Rq(x y:It)(w:World):(Op.equalIn 10000 213 (CH x) (CH y)).run Tryz.prog w=.ok (decide (x=y)) w:=by
 have u3:=Tryz.underlying3;have p:=Tryz.isAgg3;have t:=Tryz.sizeOf3;have l:Tryz.prog.underlying 213=some (.struct (Tryz.prog.fieldsOf 213)):=by kernel_rfl
 have o:Tryz.prog.stoodInHeld 213=false:=by kernel_rfl
 obtain⟨a,b⟩:=x;obtain⟨c,d⟩:=y;unfold CH;simp only;rw[show (10000:Nat)=9999+1 from rfl,run_equalIn_agg w 9999 213 _ _ l o];simp only[Program.fieldsOf,Tryz.underlying213];go_simp;by_cases i:a=c<;>by_cases j:b=d<;>simp[i,j]<;>omega
def UQ(x y:It)(w:World):(binOp .eql 213 (CH x) (CH y)).run Tryz.prog w=.ok (.bool (decide (x=y))) w:=by show (binOp .eql 213 (.agg _) (.agg _)).run Tryz.prog w=_;rw[run_eql_struct];have h:=Rq x y w;unfold CH at h;rw[h];rfl
def cF(x y:It)(w:World):(binOp .neq 213 (CH x) (CH y)).run Tryz.prog w=.ok (.bool (!decide (x=y))) w:=by show (binOp .neq 213 (.agg _) (.agg _)).run Tryz.prog w=_;rw[run_neq_struct];have h:=Rq x y w;unfold CH at h;rw[h];rfl
def NN(op:BinOp)(a b:Operand)(x y:It)(w:World):(eqGuard op 213 a b (CH x) (CH y)).run Tryz.prog w=.ok () w:=run_eqGuard_agg w op 213 a b _ _ (by kernel_rfl)
abbrev DP(w:World)(B g n c:Nat)(r:List It):Prop:=w.ownsRow B 213 2 (.slice (g,0) n c) n (r.flatMap Bc)
def MM(r:List It):(r.flatMap Bc).length=r.length*2:=Lq Bc 2 (fun _=>rfl) r
def JX{g:Nat}(h:DP w B g n c r):r.length=n:=by have:=h.1;rw[MM]at this;omega
def Yj{g:Nat}(h:DP w B g n c r)(p:r[k]?=some x):w.cell? (g,k*2)=some (.int .i64 x.1)/\w.cell? (g,k*2+1)=some (.int .i64 x.2):=by obtain⟨l,o⟩:=sG.1 p;have t:=JX h;have i:=CJ Bc 2 (fun _=>rfl) r k 0 l (by omega);have j:=CJ Bc 2 (fun _=>rfl) r k 1 l (by omega);rw[o,Nat.add_zero]at i;rw[o]at j;exact⟨by rw[Bh h (k*2) (by omega),i];rfl,by rw[Bh h (k*2+1) (by omega),j];rfl⟩
theorem U7(r:List It)(k:Nat)(x:It)(i:k<r.length):((r.flatMap Bc).set (k*2) x.1).set (k*2+1) x.2=(r.set k x).flatMap Bc:=by
 induction r generalizing k with
 | nil=>simp at i
 | cons a r l=>
  cases k with
  | zero=>rfl
  | succ k=>
   have j:(k+1)*2=k*2+2:=by omega
   have h:=l k (by simpa using i);rw[List.flatMap_cons,List.set_cons_succ,List.flatMap_cons,<-h,j];rfl
def kI{g:Nat}(h:DP w B g n c r)(l:k<n)(x:It):DP ((w.setCell (g,k*2) x.1).setCell (g,k*2+1) x.2) B g n c (r.set k x):=by have j:=Gu h (k*2) (by omega) x.1;have i:=Gu j (k*2+1) (by omega) x.2;rw[U7 r k x (by rw[JX h];exact l)]at i;exact i
theorem Rb(h:l.length<2):BM l=l:=by
 match l,h with
 | [],_=>rfl
 | [x],_=>rfl
 | x::y::l,h=>simp at h;omega
theorem Rn{B:Nat}{e:TypeId}{size n c g:Nat}:∀(i:List Value) (w:World) (xs:List Value) (o:Nat),w.ownsRow B e size (.slice (g,0) n c) n xs->o+i.length<=n*size ->
  ∃j,(w.setCells g o i).ownsRow B e size (.slice (g,0) n c) n j/\j.take o=xs.take o/\Aj (·=g) w (w.setCells g o i)
 | [],w,xs,o,h,_=>⟨xs,h,rfl,Aj.refl _ _⟩
 | z::i,w,xs,o,h,t=>by have C:=Gu h o (by simp at t;omega) z;obtain⟨j,I,J,P⟩:=Rn i _ _ (o+1) C (by simp at t ⊢;omega);refine⟨j,I,?_,((Aj.refl (·=g) w).set (p:=⟨g,o,none⟩) (.inr rfl) z).next P⟩;have p:=congrArg (fun l=>l.take o) J;simp only[List.take_take,Nat.min_eq_left (by omega:o<=o+1)]at p;rw[p,List.take_set_of_le (by omega)]
def Z8{P:Program}{t e:TypeId}{z:Value}(w:World)(ht:P.underlying t=some (.slice e))(hv:∀w,(zeroValue e).run P w=.ok z w){a b:Value}(J:z.cells=#[a,b])(C:a.oneCell'=true/\b.oneCell'=true)(g o n c:Nat)(hn:0<n)
  (T:∀j,j<n*2->(w.cell? (g,o+j)).isSome=true) (U:∀j,j<n*2->w.frozen? (g,o+j)=false) (ty:TypeId) :
  ∃R:List Value,R.length=n*2/\(Builtin.clear_ #[t] ty #[.slice (g,o) n c]).run P w=.ok (.tuple #[]) (w.setCells g o R):=by
 have l:(Builtin.zeroCells z.cells n).toList.length=n*2:=by rw[J];simp[Builtin.zeroCells]
 refine⟨(Builtin.zeroCells z.cells n).toList,l,?_⟩;have a0:∀v∈(Builtin.zeroCells z.cells n).toList,v.oneCell'=true:=by
  intro v p;rw[J]at p;simp[Builtin.zeroCells]at p;obtain⟨i,hi,rfl⟩:=p;have:i%2=0\/i%2=1:=by omega
  rcases this with h|h<;>rw[h]
  ·exact C.1
  ·exact C.2
 have I:=run_storeCells_cells (P:=P) g o (Builtin.zeroCells z.cells n).toList 0 w (by rw[l];simpa using T) (by rw[l];simpa using U) a0;simp only[Nat.add_zero]at I;obtain⟨m,rfl⟩:∃m,n=m+1:=⟨n-1,by omega⟩
 simp[Builtin.clear_,run_underlying ht,hv,I]
def cC(w:World):(zeroValue 213).run Tryz.prog w=.ok (.agg #[.int .i64 0,.int .i64 0]) w:=Tryz.zeroValue213 w
def Tt(w:World)(B g n c:Nat)(l:List It)(e:Ending)(w':World):Prop:=e=.returned (.slice (g,0) (BM l).length c)/\DP w' B g (BM l).length c (BM l)/\Aj (·=g) w w'
def Mi{g:Nat}(h:DP w B g n c r)(q:Nat):DP (w.drewN q) B g n c r:=AS h ⟨rfl,rfl,rfl,AF _,fun _ _=>rfl⟩
def eN{g:Nat}(h:DP w B g n c l)(hn:n<=100000)(ax:n<=c):() 186 #[.slice (g,0) n c] w (Tt w B g n c l):=by
 have hl:=JX h;have HR:=Hd h;have HF:Hid (∀(y:World) (r:List It),DP y B g n c r->∀(k:Nat) (x:It),r[k]?=some x->(y.cell? (g,k*2)=some (.int .i64 x.1)/\y.cell? (g,k*2+1)=some (.int .i64 x.2))/\y.frozen? (g,k*2)=false/\y.frozen? (g,k*2+1)=false):=Hd (fun y r U k x J=>⟨Yj U J,G2 U _,G2 U _⟩);unfold Tt;by_cases h2:n<2
 ·have hd:=Rb (l:=l) (by omega)
  have HD:=Hd hd;clear h;go_enter Tryz.func186,Tryz.ntmps186
  go_wp2_with fail
  go_ret;exact⟨by rw[HD.out,hl];rfl,by rw[HD.out,hl];exact HR,Aj.refl _ _⟩
 ·clear h
  go_enter Tryz.func186,Tryz.ntmps186
  go_wp2_with fail
  go_loopw [3] (fun a1 wr=>∃k q:Nat,1<=k/\k<=n/\a1=.int .i64 k/\wr=w.drewN q/\Hid (BM (l.take k)=l.take k)) (fun a1 _=>n-(intOf a1).toNat)
  case atStart=>exact⟨1,0,AF _,by omega,rfl,rfl,Hd (Rb (by rw[List.length_take];omega))⟩
  case round=>
   obtain⟨k,q,ai,hk,rfl,rfl,HD⟩:=hrel;by_cases av:k<n
   ·obtain⟨⟨xa,xb⟩,J⟩:∃x,l[k]?=some x:=⟨_,eG (by omega)⟩
    obtain⟨⟨ya,yb⟩,U⟩:∃x,l[k-1]?=some x:=⟨_,eG (by omega)⟩
    obtain⟨⟨c0,c1⟩,-⟩:=HF w l HR k _ J;obtain⟨⟨d0,d1⟩,-⟩:=HF w l HR (k-1) _ U;have HT:Hid (BM (l.take (k+1))=if (ya,yb)=(xa,xb) then BM (l.take k) else BM (l.take k)++[(xa,xb)]):=Hd (by have:=Sq (l:=l) (j:=k-1) (x:=(xa,xb)) (y:=(ya,yb)) (by rw[show k-1+1=k by omega];exact J) U;rwa [show k-1+2=k+1 by omega,show k-1+1=k by omega]at this)
    have a8:l.take (k+1)=l.take k++[(xa,xb)]:=by rw[List.take_add_one,J];rfl
    have af:=Hd a8;have HX:=Hd J;have heq:=fun y=>UQ (xa,xb) (ya,yb) y
    have a0:=fun y op a b=>NN op a b (xa,xb) (ya,yb) y
    unfold CH at heq a0;simp only at c0 c1 d0 d1 heq a0;have i1:(0:Int)<=(k:Int)-1:=by omega
    have i2:(k:Int)<(n:Int):=by omega
    have i3:(k:Int)-1<(n:Int):=by omega
    clear J U a8;by_cases p:((xa,xb):It)=(ya,yb)
    ·have T:decide (((xa,xb):It)=(ya,yb))=true:=decide_eq_true p
     rw[T]at heq;have a2:Hid (BM (l.take (k+1))=l.take k):=Hd (by rw[HT.out,if_pos p.symm,HD.out]);have an:¬(c=k):=by omega
     clear HT p T;go_upto_region 6 with fail
     go_quiet (fail)
     have ae:=Hd (Mi HR (q+nq));have ad:Hid (Aj (·=g) w (w.drewN (q+nq))):=Hd (Aj.AJ ⟨rfl,rfl,rfl,AF _,fun _ _=>rfl⟩);clear heq a0 c0 c1 d0 d1;go_wp2_with fail
     go_loopw [3,5] (fun a1 i2 wr=>∃(o i:Nat) (r:List It),a1=.int .i64 o/\i2=.int .i64 i/\1<=i/\k+i<=n/\o<k+i/\1<=o/\Hid (DP wr B g n c r)/\Hid (Aj (·=g) w wr)/\Hid (r.take o=BM (l.take (k+i))/\o=(BM (l.take (k+i))).length/\∀j,k+i-1<=j->r[j]?=l[j]?)) (fun _ i2 _=>n-(intOf i2).toNat)
     case atStart=>exact⟨k,1,l,rfl,rfl,AF _,by omega,by omega,ai,ae,ad,Hd ⟨by rw[a2.out],by rw[a2.out,List.length_take];omega,fun _ _=>rfl⟩⟩
     case round=>
      obtain⟨o,i,r,rfl,rfl,h1,au,aq,aj,R,a5,I⟩:=hrel;rename World=>P
      by_cases aw:k+i<n
      ·obtain⟨⟨t,C⟩,J⟩:∃x,l[k+i]?=some x:=⟨_,eG (by omega)⟩
       obtain⟨⟨ra,rb⟩,U⟩:∃x,l[k+i-1]?=some x:=⟨_,eG (by omega)⟩
       obtain⟨oo,ho⟩:∃x,r[o]?=some x:=⟨_,eG (by rw[JX R.out];omega)⟩
       obtain⟨⟨c0,c1⟩,-⟩:=HF P r R (k+i) _ ((I.2.2 _ (by omega)).trans J);obtain⟨⟨d0,d1⟩,-⟩:=HF P r R (k+i-1) _ ((I.2.2 _ (by omega)).trans U);obtain⟨⟨o0,o1⟩,f0,f1⟩:=HF P r R o _ ho;rw[show (k+i)*2=k*2+i*2 by omega]at c0 c1;rw[show (k+i-1)*2=k*2+(i-1)*2 by omega]at d0 d1;have HT:Hid (BM (l.take (k+i+1))=if (ra,rb)=(t,C) then BM (l.take (k+i)) else BM (l.take (k+i))++[(t,C)]):=Hd (by have:=Sq (l:=l) (j:=k+i-1) (x:=(t,C)) (y:=(ra,rb)) (by rw[show k+i-1+1=k+i by omega];exact J) U;rwa [show k+i-1+2=k+i+1 by omega,show k+i-1+1=k+i by omega]at this)
       have ak:=Hd J;have heq:=fun y=>cF (t,C) (ra,rb) y
       have a0:=fun y op a b=>NN op a b (t,C) (ra,rb) y
       unfold CH at heq a0;simp only at c0 c1 d0 d1 heq a0;have j1:(0:Int)<=(i:Int)-1:=by omega
       have j2:(i:Int)<((n-k:Nat):Int):=by omega
       have j3:(i:Int)-1<((n-k:Nat):Int):=by omega
       have j4:(o:Int)<(n:Int):=by omega
       clear J U ho;by_cases p:((t,C):It)=(ra,rb)
       ·have T:(!decide (((t,C):It)=(ra,rb)))=false:=by rw[decide_eq_true p];rfl
        rw[T]at heq;have a6:Hid (r.take o=BM (l.take (k+(i+1)))/\o=(BM (l.take (k+(i+1)))).length/\∀j,k+(i+1)-1<=j->r[j]?=l[j]?):=Hd (by rw[show k+(i+1)=k+i+1 by omega,HT.out,if_pos p.symm];exact⟨I.1,I.2.1,fun j hj=>I.2.2 j (by omega)⟩)
        clear HT p T I;go_upto_region 11 with fail
        go_quiet (fail)
        have a7:=Hd (Mi R nq);have a4:Hid (Aj (·=g) w (P.drewN nq)):=Hd (a5.next (Aj.AJ ⟨rfl,rfl,rfl,AF _,fun _ _=>rfl⟩));clear heq a0;go_wp2_with fail
        go_roundw
        case rel=>exact⟨o,i+1,r,rfl,by go_num,by omega,by omega,by omega,aj,a7,a4,a6⟩
        case measure=>simp[intOf];omega
       ·have T:(!decide (((t,C):It)=(ra,rb)))=true:=by rw[decide_eq_false p];rfl
        rw[T]at heq;have a6:Hid ((r.set o (t,C)).take (o+1)=BM (l.take (k+(i+1)))/\o+1=(BM (l.take (k+(i+1)))).length/\∀j,k+(i+1)-1<=j->(r.set o (t,C))[j]?=l[j]?):=Hd (by
         have ay:=JX R;rw[show k+(i+1)=k+i+1 by omega,HT.out,if_neg (fun e=>p e.symm)];refine⟨?_,?_,fun j hj=>?_⟩
         ·rw[List.take_add_one,tG (by omega),List.take_set_of_le (AF _),I.1]
          rfl
         ·rw[B8,<-I.2.1];rfl
         ·rw[uG (by omega)]
          exact I.2.2 j (by omega))
        clear HT p T I;go_upto_region 11 with fail
        go_quiet (fail)
        have a7:=Hd (kI (Mi R nq) (k:=o) (by omega) (t,C));have a4:Hid (Aj (·=g) w (((P.drewN nq).setCell (g,o*2) t).setCell (g,o*2+1) C)):=Hd (((a5.next (Aj.AJ (a:=P) (b:=P.drewN nq) ⟨rfl,rfl,rfl,AF _,fun _ _=>rfl⟩)).set (p:=⟨g,o*2,none⟩) (.inr rfl) _).set (p:=⟨g,o*2+1,none⟩) (.inr rfl) _);clear heq a0;go_wp2_with fail
        go_roundw
        case rel=>exact⟨o+1,i+1,r.set o (t,C),by go_num,by go_num,by omega,by omega,by omega,by omega,a7,a4,a6⟩
        case measure=>simp[intOf];omega
      ·have ah:k+i=n:=by omega
       have ar:o<n:=by omega
       have ao:¬(c=o):=by omega
       obtain⟨zs,az,al⟩:=Z8 (P:=Tryz.prog) (t:=122) (e:=213) (z:=.agg #[.int .i64 0,.int .i64 0]) P Tryz.underlying122 cC (a:=.int .i64 0) (b:=.int .i64 0) rfl ⟨rfl,rfl⟩ g (o*2) (n-o) (c-o) (by omega) (fun j hj=>by have ag:=Bh R (o*2+j) (by omega);rw[ag,Option.isSome_iff_exists];exact⟨_,eG (by rw[MM,JX R.out];omega)⟩) (fun j hj=>G2 R _) 0
       obtain⟨b0,a9,aa,ab⟩:=Rn zs P _ (o*2) R (by omega);have a3:Hid (DP (P.setCells g (o*2) zs) B g o c (BM l)/\(BM l).length=o/\Aj (·=g) w (P.setCells g (o*2) zs)):=Hd (by obtain⟨t1,t2,-⟩:=I.out;rw[ah,<-hl,List.take_length]at t1 t2;refine⟨?_,t2.symm,a5.next ab⟩;have hz:=fH a9 (k:=o) (by omega);rw[aa,Ye Bc 2 (fun _=>rfl),t1]at hz;exact hz)
       clear a9 aa ab I;generalize P.setCells g (o*2) zs=W9 at *;have j4:(o:Int)<(n:Int):=by omega
       have j5:(o:Int)<=(n:Int):=by omega
       have j6:(0:Int)<=(o:Int):=by omega
       go_wp2_with fail
       go_ret;exact⟨by rw[a3.2.1];rfl,by rw[a3.2.1];exact a3.1,a3.2.2⟩
    ·have T:decide (((xa,xb):It)=(ya,yb))=false:=decide_eq_false p
     rw[T]at heq;have a2:Hid (BM (l.take (k+1))=l.take (k+1)):=Hd (by rw[HT.out,if_neg (fun e=>p e.symm),HD.out,af.out]);clear HT p T;go_upto_region 6 with fail
     go_quiet (fail)
     go_wp2_with fail
     go_roundw
     case rel=>exact⟨k+1,q+nq,by omega,by omega,by go_num,rfl,a2⟩
     case measure=>simp[intOf];omega
   ·obtain rfl:k=n:=by omega
    have HE:Hid (BM l=l):=Hd (by have:=HD.out;rwa [<-hl,List.take_length]at this);go_wp2_with fail
    go_ret;exact⟨by rw[HE.out,hl];rfl,by rw[HE.out,hl];exact Mi HR q,Aj.AJ ⟨rfl,rfl,rfl,AF _,fun _ _=>rfl⟩⟩
end Go.Proofs.YtlogpnoioimhjaaGreatDoor
