/- . -/
import Derived.Test.YtiljpamcmmeflaaGreatDoorXbi
set_option linter.all false
set_option maxRecDepth 100000
set_option maxHeartbeats 16000000
namespace Go.Proofs.YtiljpamcmmeflaaGreatDoor
open Go.RowKit Go.Proofs.Tryz
open Value renaming slice→nC,int→nE,pointer→nF,string→nH,bool→nI
open Option renaming some→nJ,none→nK
open IntKind renaming i64→nM
open Obj renaming cells→nO
open Ending renaming returned→nP
open World renaming cell?→nQ
open Go renaming World→nS,Value→nU
variable{A:Option Addr}{c g i j k:Nat}{p q:Nd×nU}{S:ByteArray->Int}{K op:Int}{H N s:ByteArray}
def Y0{A:Nat->Prop}{w:nS}{rb:Nat}{T:List (Nd×nU)}(ht:Eo A w rb T)(I:T[k]?=nJ p)(hn:p.1.kids.length<=100000)(h0:IN p.1.kids p.2) :
  () 74 #[(rb,0),k] w fun e w'=>∃A c,e=nP (.tuple #[.agg #[p.1.sym,p.1.leaf,p.1.AX,nC A p.1.kids.length c],nI true])/\w'.ownsRow w 3 1 (nC A p.1.kids.length c) p.1.kids.length (p.1.kids.map AS)/\Below w w w':=by
 obtain⟨o,cn,n1,-,R,n4⟩:=ht.row;have a4:=ht.r.2;have ai:=(sG.1 I).1;have ab:=ht.kids p (mG I);have ah:=Hd fun y (i:Below w w y)=>Ol ((i.cell (p:=⟨rb,0,nK⟩) a4).trans n1) (AK a4 i.size) ai
 have a8:=Hd fun y (i:Below w w y)=>Tb (BD.later ab.1 i) hn h0
 have a0:=n4 k p I 0 mT;have a1:=n4 k p I 1 mT;have a2:=n4 k p I 2 mT;have a3:=n4 k p I 3 mT;obtain⟨J,P,aj⟩:=ab.shape;obtain⟨x,kv⟩:=p;simp only at aj;subst aj;have ag:Hid (∀y,Below w w y->(nQ y (rb,0)=nJ (nC (o,0) T.length cn)/\rb<y.heap.size)/\o<y.heap.size/\nQ y (o,k*6)=nJ (nE nM x.sym)/\nQ y (o,k*6+1)=nJ (nE nM x.leaf)/\nQ y (o,k*6+2)=nJ (nE nM x.AX)/\nQ y (o,k*6+3)=nJ (nC J x.kids.length P)):=Hd fun y i=>⟨⟨(i.cell (p:=⟨rb,0,nK⟩) a4).trans n1,AK a4 i.size⟩,AK R i.size,(i.cell (p:=⟨o,k*6,nK⟩) R).trans a0,(i.cell (p:=⟨o,_,nK⟩) R).trans a1,(i.cell (p:=⟨o,_,nK⟩) R).trans a2,(i.cell (p:=⟨o,_,nK⟩) R).trans a3⟩
 have ao:(k:Int)<(T.length:Int):=by omega
 have aa:=AE w (nO #[nE nM 0,nE nM 0,nE nM 0,nC nK 0 0] 82);have a6:=Hd aa;obtain⟨⟨x0,xl⟩,yl,y0,y1,y2,y3⟩:=ag _ aa;clear ht I n1 R n4 a4 ab a0 a1 a2 a3 ai aa;simp only at a8 ⊢;generalize T.length=tl at *;clear h0;generalize x.kids.length=j at *;generalize x.kids.map AS=au at *;go_enter func74,ntmps74
 go_upto_region 4 with(go_at_call 33;refine(ah _ a6).mono ?_;rintro e w1 ⟨rfl,ad⟩;have ad:=ad.symm;subst ad)
 have a5:Below w w ((w.alloc (nO #[nE nM 0,nE nM 0,nE nM 0,nC nK 0 0] 82)).alloc (nO #[x.sym,x.leaf,x.AX,nC J j P] 82)):=a6.alloc mV _;have k1:Ah ((w.alloc (nO #[nE nM 0,nE nM 0,nE nM 0,nC nK 0 0] 82)).alloc (nO #[x.sym,x.leaf,x.AX,nC J j P] 82)) w.heap.size 82 #[nE nM 0,nE nM 0,nE nM 0,nC nK 0 0]:=(Ah.new w _ _).alloc _;have k2:Ah ((w.alloc (nO #[nE nM 0,nE nM 0,nE nM 0,nC nK 0 0] 82)).alloc (nO #[x.sym,x.leaf,x.AX,nC J j P] 82)) (w.heap.size+1) 82 #[x.sym,x.leaf,x.AX,nC J j P]:=Ah.newAt mV
 generalize (w.alloc (nO #[nE nM 0,nE nM 0,nE nM 0,nC nK 0 0] 82)).alloc (nO #[x.sym,x.leaf,x.AX,nC J j P] 82)=W2 at a5 k1 k2 ⊢;have a7:=Hd a5;have af:=Hd k1;have a9:=Hd k2;have ak:=Hd (a8 _ a5);have d3:=k2.cell 3;have dl:=k2.lt;simp at d3;clear xl yl y0 y1 y2 y3 x0 a5 k1 k2 ah a8 a6 ag ao;go_wp2_with (
   go_at_call 35;refine ak.mono ?_;rintro e w3 ⟨C,c3,rfl,ho,hb⟩
   have HO:=Hd ho;have ae:=Hd hb;have l:=af.below hb af.lt;have t:=a9.below hb a9.lt;have al:=Hd l;have aq:=Hd t;have z0:=t.cell 0;have z1:=t.cell 1;have z2:=t.cell 2;have z3:=t.cell 3;have zl:=t.lt;have u0:=l.cell 0;have u1:=l.cell 1;have u2:=l.cell 2;have u3:=l.cell 3;have ul:=l.lt;have f0:=l.frozen 0;have f1:=l.frozen 1;have f2:=l.frozen 2;have f3:=l.frozen 3;have g3:=t.frozen 3;simp at z0 z1 z2 z3 u0 u1 u2 u3;clear ho hb l t d3 dl)
 have hc:Aj (fun b=>b=w.heap.size\/b=w.heap.size+1) w3 (((((w3.setCell (w.heap.size+1,3) (nC C j c3)).setCell (w,0) x.sym).setCell (w,1) x.leaf).setCell (w,2) x.AX).setCell (w,3) (nC C j c3)):=
  (((((Aj.refl _ w3).set (p:=⟨w.heap.size+1,3,nK⟩) (.inr (.inr rfl)) _).set (p:=⟨w.heap.size,0,nK⟩) (.inr (.inl rfl)) _).set (p:=⟨w.heap.size,1,nK⟩) (.inr (.inl rfl)) _).set (p:=⟨w.heap.size,2,nK⟩) (.inr (.inl rfl)) _).set (p:=⟨w.heap.size,3,nK⟩) (.inr (.inl rfl)) _
 have ar:=a9.lt;have h1:Ah (w3.setCell (w.heap.size+1,3) (nC C j c3)) w.heap.size 82 #[nE nM 0,nE nM 0,nE nM 0,nC nK 0 0]:=(Below.heap_setCell _ _ _ _ mV).trans al;have U:=(((h1.AW 0 x.sym).AW 1 x.leaf).AW 2 x.AX).AW 3 (nC C j c3);have r0:=U.cell 0;have r1:=U.cell 1;have r2:=U.cell 2;have r3:=U.cell 3;have rl:=U.lt;have hO:=hc.own HO fun g hg hx=>by have:=(BR HO g hg).2;omega
 have hB:=(a7.trans (ae.mono a7.size)).trans (hc.below (AY a7.size ae.size) fun b hb hx=>by omega);have an:=DW hO (show w.heap.size<=W2.heap.size by omega);generalize ((((w3.setCell (w.heap.size+1,3) (nC C j c3)).setCell (w,0) x.sym).setCell (w,1) x.leaf).setCell (w,2) x.AX).setCell (w,3) (nC C j c3)=wF at *;simp at r0 r1 r2 r3;refine bodyPost_ret (v:=.tuple #[.agg #[x.sym,x.leaf,x.AX,nC C j c3],nI true]) (by simp[results,Tryz.f74,go_sem,r0,r1,r2,r3]) rfl ?_
 exact⟨_,_,rfl,an,hB⟩
structure Ed(B:Nat)(w:nS)(mb:Nat)(T:List (Nd×nU))(vv:nU):Prop where
 lt:B<=w.heap.size
 at_:∃bb rb,Ah w mb 93 #[nF (nJ ⟨bb,0,nK⟩),nF (nJ ⟨rb,0,nK⟩),vv]/\Eo (fun b=>b<B) w rb T
 ok:∀p∈T,p.1.kids.length<=1000/\IN p.1.kids p.2
variable{B mb:Nat}{T:List (Nd×nU)}{vv:nU}
def Ed.later{w y:nS}{l:nU}(h:Ed B w mb T l)(i:Below w w y):Ed B y mb T l:=by obtain⟨o,C,j,p⟩:=h.at_;exact⟨AY h.lt i.size,⟨o,C,j.below i j.lt,p.Bu i.size fun b t=>i.block b (AK t h.lt)⟩,h.ok⟩
def Nn(w:nS)(x:Nd)(e:Ending)(w':nS):Prop:=∃A c,e=nP (.agg #[x.sym,x.leaf,x.AX,nC A x.kids.length c])/\w'.ownsRow w 3 1 (nC A x.kids.length c) x.kids.length (x.kids.map AS)/\Below w w w'
def KJ{w:nS}(h:Ed B w mb T vv)(J:T[k]?=nJ p):() 41 #[(mb,0),k] w (Nn w p.1):=by
 have h0:=AE w (nO #[nE nM 0,nE nM 0,nE nM 0,nC nK 0 0] 82);obtain⟨bb,rb,I,ht⟩:=(h.later h0).at_;obtain⟨o1,o2⟩:=h.ok p (mG J);have HT:=Hd (Y0 ht J mR o2);have t:=Hd h0;have m1:=I.cell 1;have ml:=I.lt;simp at m1;have R:=Hd (Ah.new w 82 #[nE nM 0,nE nM 0,nE nM 0,nC nK 0 0]);obtain⟨x,kv⟩:=p;unfold Nn;clear h h0 I ht J o1 o2;simp only at HT ⊢;generalize x.kids.length=l at *;generalize x.kids.map AS=a2 at *;go_enter func41,ntmps41
 go_wp2_with (
   go_at_call 74;refine HT.mono ?_;rintro e w3 ⟨j,c3,rfl,ho,C⟩
   have U:=Hd ho;have P:=Hd C;have i:=(R.below C R.lt).alloc (nO #[x.sym,x.leaf,x.AX,nC j l c3] 82);have a0:=Hd i;have u0:=i.cell 0;have u1:=i.cell 1;have u2:=i.cell 2;have u3:=i.cell 3;have ul:=i.lt;have f0:=i.frozen 0;have f1:=i.frozen 1;have f2:=i.frozen 2;have f3:=i.frozen 3;simp at u0 u1 u2 u3;clear ho C i)
 have hc:=(((((Aj.refl (fun b=>b=w.heap.size) w3).alloc (nO #[x.sym,x.leaf,x.AX,nC j l c3] 82)).set (p:=⟨w.heap.size,0,nK⟩) (.inr rfl) x.sym).set (p:=⟨w.heap.size,1,nK⟩) (.inr rfl) x.leaf).set (p:=⟨w.heap.size,2,nK⟩) (.inr rfl) x.AX).set (p:=⟨w.heap.size,3,nK⟩) (.inr rfl) (nC j l c3);have o:=(((a0.AW 0 x.sym).AW 1 x.leaf).AW 2 x.AX).AW 3 (nC j l c3);have r0:=o.cell 0;have r1:=o.cell 1;have r2:=o.cell 2;have r3:=o.cell 3;have rl:=o.lt;have hO:=hc.own U fun g hg hx=>by have h3:=(BR U g hg).2;simp at h3;omega
 have hB:=(t.trans (P.mono t.size)).trans (hc.below (AY t.size P.size) fun b C hx=>by omega);have a1:=DW hO t.size;generalize ((((w3.alloc (nO #[x.sym,x.leaf,x.AX,nC j l c3] 82)).setCell (w,0) x.sym).setCell (w,1) x.leaf).setCell (w,2) x.AX).setCell (w,3) (nC j l c3)=wF at *;simp at r0 r1 r2 r3;refine bodyPost_ret (v:=.agg #[x.sym,x.leaf,x.AX,nC j l c3]) (by simp[results,Tryz.f41,go_sem,r0,r1,r2,r3]) rfl ?_
 exact⟨_,_,rfl,a1,hB⟩
def N1(a b c:Int)(A:Option Addr)(n m:Nat)(y:nS):(Instr.field 82 (.agg #[a,b,c,nC A n m]) 3).run Tryz.prog y=.ok (nC A n m) y:=by kernel_rfl
def TF(a b c:Int)(A:Option Addr)(n m:Nat)(y:nS):(Instr.field 82 (.agg #[a,b,c,nC A n m]) 0).run Tryz.prog y=.ok a y:=by kernel_rfl
def lQ(a b c:Int)(A:Option Addr)(n m:Nat)(y:nS):(Instr.field 82 (.agg #[a,b,c,nC A n m]) 1).run Tryz.prog y=.ok b y:=by kernel_rfl
def U5{w:nS}{t:nU}(h:Ed B w mb T t)(j:T[k]?=nJ p):() 76 #[(mb,0),k] w fun e w'=>e=nP p.1.kids.length/\Below w w w':=by
 have l:Hid (() 41 #[(mb,0),k] w fun e w'=>∃A c,e=nP (.agg #[p.1.sym,p.1.leaf,p.1.AX,nC A p.1.kids.length c])/\w'.ownsRow w 3 1 (nC A p.1.kids.length c) p.1.kids.length (p.1.kids.map AS)/\Below w w w'):=Hd (KJ h j);have I:=N1 p.1.sym p.1.leaf p.1.AX;clear h j;go_enter func76,ntmps76
 go_wp2_with (go_at_call 41;refine l.mono ?_;rintro e J ⟨C,c1,rfl,-,i⟩;have o:=Hd i;clear i)
 go_ret;exact⟨rfl,o⟩
def IE{w:nS}(h:Ed B w mb T vv)(hp:T[k]?=nJ p){q:Int}{x:Nat}(hq:q=j\/(q<0/\q+p.1.kids.length=j))(hx:p.1.kids[j]?=nJ x) :
  () 43 #[(mb,0),k,q] w fun e w'=>e=nP x/\Below w w w':=by
 have C:Hid (() 41 #[(mb,0),k] w fun e w'=>∃A c,e=nP (.agg #[p.1.sym,p.1.leaf,p.1.AX,nC A p.1.kids.length c])/\w'.ownsRow w 3 1 (nC A p.1.kids.length c) p.1.kids.length (p.1.kids.map AS)/\Below w w w'):=Hd (KJ h hp);have a2:=N1 p.1.sym p.1.leaf p.1.AX;have hn:=(h.ok p (mG hp)).1;have hj:=(sG.1 hx).1;have R:=Hd hx;clear h hp hx;obtain⟨I,kv⟩:=p;simp only at *;obtain⟨ks,a1⟩:∃ks,I.kids=ks:=⟨_,rfl⟩
 rw[a1]at C hn hj R hq;clear a1;obtain⟨n,a0⟩:∃n,ks.length=n:=⟨_,rfl⟩
 rw[a0]at C hn hj hq;have HN:=Hd a0;clear a0;generalize (I.sym:Int)=sy,I.leaf=lf,I.AX=ru at *;rcases hq with rfl|⟨a3,a4⟩
 ·go_enter func43,ntmps43
  go_wp2_with (
   go_at_call 41;refine C.mono ?_;rintro e t ⟨J,c1,rfl,o,l⟩;have P:=Hd l;have i:=Hd o;clear l o
   obtain⟨g,rfl,gl,d0⟩:∃g,J=nJ ⟨g,0,nK⟩/\g<t.heap.size/\nQ t ⟨g,j,nK⟩=nJ (nE nM x):=by
    rcases Bg i.out with⟨-,e⟩|⟨g,c',e,-,U,-⟩
    ·omega
    ·cases e
     refine⟨g,rfl,U,?_⟩;rw[Bb i.out j mR,pG,R.out];rfl)
  go_ret;exact⟨rfl,P⟩
 ·have hw:IntKind.i64.wrap (q+(n:Int))=(j:Int):=by rw[IntKind.wrap_i64];omega
  go_enter func43,ntmps43
  go_wp2_with (
   go_at_call 41;refine C.mono ?_;rintro e t ⟨J,c1,rfl,o,l⟩;have P:=Hd l;have i:=Hd o;clear l o
   obtain⟨g,rfl,gl,d0⟩:∃g,J=nJ ⟨g,0,nK⟩/\g<t.heap.size/\nQ t ⟨g,j,nK⟩=nJ (nE nM x):=by
    rcases Bg i.out with⟨-,e⟩|⟨g,c',e,-,U,-⟩
    ·omega
    ·cases e
     refine⟨g,rfl,U,?_⟩;rw[Bb i.out j mR,pG,R.out];rfl)
  go_ret;exact⟨rfl,P⟩
def Gy(w:nS)(mb:Nat)(S:ByteArray->Int):Prop:=∃i mp t C j l o p,Ah w mb 93 #[nF (nJ ⟨i,0,nK⟩),t,C]/\Ah w i 67 #[j,l,o,p,.map (nJ mp)]/\∀y,Below w w y->∀s:ByteArray,s.size<=100->(Instr.lookup 65 (.map (nJ mp)) (nH s) false).run Tryz.prog y=.ok (nE nM (S s)) y
def Gy.later{w y:nS}(h:Gy w mb S)(i:Below w w y):Gy y mb S:=by obtain⟨o,mp,R,T,p,t,C,I,j,l,J⟩:=h;exact⟨o,mp,R,T,p,t,C,I,j.below i j.lt,l.below i l.lt,fun z P=>J z (i.trans (P.mono i.size))⟩
def Mf{w:nS}(h:Ed B w mb T vv)(hn:Gy w mb S)(hp:T[k]?=nJ p)(s:ByteArray)(hz:s.size<=100:=by decide):() 113 #[(mb,0),k,nH s] w fun e w'=>e=nP (nI ((p.1.sym:Int)==S s))/\Below w w w':=by
 have HA:Hid (∀y,Below w w y->() 41 #[(mb,0),k] y fun e w'=>∃A c,e=nP (.agg #[p.1.sym,p.1.leaf,p.1.AX,nC A p.1.kids.length c])/\w'.ownsRow y 3 1 (nC A p.1.kids.length c) p.1.kids.length (p.1.kids.map AS)/\Below y y w'):=Hd fun y o=>KJ (h.later o) hp
 have a0:=TF p.1.sym p.1.leaf p.1.AX;obtain⟨j,mp,tv,a2,g0,g1,g2,g3,J,P,n3⟩:=hn;have C:Hid (∀y,Below w w y->(nQ y (mb,0)=nJ (nF (j,0))/\mb<y.heap.size)/\(nQ y (j,4)=nJ (.map (nJ mp))/\j<y.heap.size)/\(Instr.lookup 65 (.map (nJ mp)) (nH s) false).run Tryz.prog y=.ok (nE nM (S s)) y):=Hd fun y o=>by have R:=J.below o J.lt;have U:=P.below o P.lt;exact⟨⟨R.cell 0,R.lt⟩,⟨U.cell 4,U.lt⟩,n3 y o s hz⟩
 clear h hp J P n3;obtain⟨t,kv⟩:=p;simp only at *;generalize (t.sym:Int)=sy,t.leaf=lf,t.AX=ru,t.kids.length=nk,t.kids.map AS=a1,S s=v at *;have i:=Hd (Below.refl w.heap.size w).drew;go_enter func113,ntmps113
 go_upto_region 1 with fail
 refine CO 14 (fun y:nS=>(nQ y (mb,0)=nJ (nF (j,0))/\mb<y.heap.size)/\(nQ y (j,4)=nJ (.map (nJ mp))/\j<y.heap.size)/\(Instr.lookup 65 (.map (nJ mp)) (nH s) false).run Tryz.prog y=.ok v y) mU ?_;have I:=C _ i;refine FE [0,1,4,5,6,7,8,9,10,11,12] I ?_;refine Co 2 mU rfl rfl rfl (fun K l=>?_);go_simp;refine(HA _ i).mono ?_;rintro e w5 ⟨A1,c1,rfl,-,hb⟩;replace i:=Hd (i.trans (hb.mono i.size));clear hb;refine l _ _ (fun _=>C _ i) ?_;replace I:=C _ i
 clear l K;simp only[AD,AA];refine FE [3,13] I ?_;refine Co 14 mU rfl rfl rfl (fun K l=>?_);go_simp;refine l _ _ (fun h=>absurd rfl h) ?_;clear l K;simp only[AD,AA];refine CI mU ?_ _;go_wp2;go_ret;exact⟨rfl,i⟩
def GB(w:nS)(p:nU)(j:Nat)(K op:Int)(A:Option Addr)(n c:Nat)(N H:ByteArray):Prop:=∃i l o,p=nC (nJ ⟨i,0,nK⟩) l o/\j<l/\i<w.heap.size/\nQ w ⟨i,j*5,nK⟩=nJ (nE nM K)/\nQ w ⟨i,j*5+1,nK⟩=nJ (nE nM op)/\nQ w ⟨i,j*5+2,nK⟩=nJ (nC A n c)/\nQ w ⟨i,j*5+3,nK⟩=nJ (nH N)/\nQ w ⟨i,j*5+4,nK⟩=nJ (nH H)
def GB.later{w y:nS}{o:nU}{n:Nat}(h:GB w o j K op A n c N H)(i:Below w w y):GB y o j K op A n c N H:=by obtain⟨l,t,p,rfl,v0,v1,C,I,v4,J,v6⟩:=h;exact⟨l,t,p,rfl,v0,AK v1 i.size,(i.cell (p:=⟨l,_,nK⟩) v1).trans C,(i.cell (p:=⟨l,_,nK⟩) v1).trans I,(i.cell (p:=⟨l,_,nK⟩) v1).trans v4,(i.cell (p:=⟨l,_,nK⟩) v1).trans J,(i.cell (p:=⟨l,_,nK⟩) v1).trans v6⟩
def jN{w:nS}(h:Ed B w mb T vv)(hp:T[k]?=nJ p)(hj:p.1.leaf=j){n:Nat}(hv:GB w vv j K op A n c N H) :
  () 242 #[(mb,0),k] w fun e w'=>e=nP (.agg #[nE nM K,op,nC A n c,nH N,nH H])/\Below w w w':=by
 obtain⟨i,nv,cv,rfl,v0,v1,v2,v3,v4,v5,v6⟩:=hv;have h0:=AE w (nO #[nE nM 0,nE nM 0,nC nK 0 0,nH ⟨#[]⟩,nH ⟨#[]⟩] 50);have a0:=Hd (Ah.new w 50 #[nE nM 0,nE nM 0,nC nK 0 0,nH ⟨#[]⟩,nH ⟨#[]⟩]);have U:=Hd h0;obtain⟨C,a4⟩:∃C,w.alloc (nO #[nE nM 0,nE nM 0,nC nK 0 0,nH ⟨#[]⟩,nH ⟨#[]⟩] 50)=C:=⟨_,rfl⟩
 rw[a4]at h0 a0 U;have HA:Hid (∀y,Below C C y->() 41 #[(mb,0),k] y fun e w'=>∃A c,e=nP (.agg #[p.1.sym,p.1.leaf,p.1.AX,nC A p.1.kids.length c])/\w'.ownsRow y 3 1 (nC A p.1.kids.length c) p.1.kids.length (p.1.kids.map AS)/\Below y y w'):=Hd fun y hy=>KJ (h.later (h0.trans (hy.mono h0.size))) hp
 have a5:=lQ p.1.sym p.1.leaf p.1.AX;obtain⟨bb,rb,n1,-⟩:=h.at_;have HS:Hid (∀y,Below C C y->(fun y:nS=>(nQ y (mb,2)=nJ (nC (i,0) nv cv)/\mb<y.heap.size)/\nQ y (i,j*5)=nJ (nE nM K)/\nQ y (i,j*5+1)=nJ (nE nM op)/\nQ y (i,j*5+2)=nJ (nC A n c)/\nQ y (i,j*5+3)=nJ (nH N)/\nQ y (i,j*5+4)=nJ (nH H)/\i<y.heap.size) y):=Hd fun y hy=>by have o:=h0.trans (hy.mono h0.size);have a1:=n1.below o n1.lt;exact⟨⟨a1.cell 2,a1.lt⟩,(o.cell (p:=⟨i,j*5,nK⟩) v1).trans v2,(o.cell (p:=⟨i,_,nK⟩) v1).trans v3,(o.cell (p:=⟨i,_,nK⟩) v1).trans v4,(o.cell (p:=⟨i,_,nK⟩) v1).trans v5,(o.cell (p:=⟨i,_,nK⟩) v1).trans v6,AK v1 o.size⟩
 have a6:(j:Int)<(nv:Int):=by omega
 clear h hp n1 v0 v1 v2 v3 v4 v5 v6 h0;obtain⟨R,kv⟩:=p;simp only at *;rw[hj]at HA a5;clear hj;generalize (R.sym:Int)=sy,R.AX=ru,R.kids.length=nk,R.kids.map AS=a7 at *;have t:=Hd (Below.refl C.heap.size C).drew;go_enter func242,ntmps242
 go_upto_region 1 with fail
 refine CO 10 (fun y:nS=>(nQ y (mb,2)=nJ (nC (i,0) nv cv)/\mb<y.heap.size)/\nQ y (i,j*5)=nJ (nE nM K)/\nQ y (i,j*5+1)=nJ (nE nM op)/\nQ y (i,j*5+2)=nJ (nC A n c)/\nQ y (i,j*5+3)=nJ (nH N)/\nQ y (i,j*5+4)=nJ (nH H)/\i<y.heap.size) mU ?_;have P:=HS _ t;refine FE [0,1,2,3,4,5] P ?_;refine Co 6 mU rfl rfl rfl (fun K J=>?_);go_simp;refine(HA _ t).mono ?_;rintro e w5 ⟨A1,c1,rfl,-,o⟩;replace t:=Hd (t.trans (o.mono t.size))
 clear o;refine J _ _ (fun _=>HS _ t) ?_;replace P:=HS _ t;clear J K;simp only[AD,AA];refine FE [7,8,9] P ?_;have l:=a0.below t a0.lt;have a3:=Hd l;have u0:=l.cell 0;have u1:=l.cell 1;have u2:=l.cell 2;have u3:=l.cell 3;have u4:=l.cell 4;have ul:=l.lt;have f0:=l.frozen 0;have f1:=l.frozen 1;have f2:=l.frozen 2;have f3:=l.frozen 3;have f4:=l.frozen 4;simp at u0 u1 u2 u3 u4;clear l;refine Be 10 mU rfl rfl (fun K J=>?_);go_simp;refine J _ _ (fun h=>absurd rfl h) ?_;clear J K;refine CI mU ?_ _
 have hc:=(((((Aj.refl (fun b=>b=w.heap.size) w5).set (p:=⟨w.heap.size,0,nK⟩) (.inr rfl) (nE nM K)).set (p:=⟨w.heap.size,1,nK⟩) (.inr rfl) op).set (p:=⟨w.heap.size,2,nK⟩) (.inr rfl) (nC A n c)).set (p:=⟨w.heap.size,3,nK⟩) (.inr rfl) (nH N)).set (p:=⟨w.heap.size,4,nK⟩) (.inr rfl) (nH H);have I:=((((a3.AW 0 (nE nM K)).AW 1 op).AW 2 (nC A n c)).AW 3 (nH N)).AW 4 (nH H);have r0:=I.cell 0;have r1:=I.cell 1;have r2:=I.cell 2;have r3:=I.cell 3;have r4:=I.cell 4;have rl:=I.lt;have a2:=U.trans (t.mono U.size)
 have hB:=a2.trans (hc.below a2.size fun b o hx=>by omega);have HF:=Hd hB;clear hc I hB a2 P u0 u1 u2 u3 u4 ul f0 f1 f2 f3 f4;generalize ((((w5.setCell (w,0) (nE nM K)).setCell (w,1) op).setCell (w,2) (nC A n c)).setCell (w,3) (nH N)).setCell (w,4) (nH H)=wF at *;simp at r0 r1 r2 r3 r4;go_wp2;refine bodyPost_ret (v:=.agg #[nE nM K,op,nC A n c,nH N,nH H]) (by simp[results,Tryz.f242,go_sem,r0,r1,r2,r3,r4]) rfl ?_;exact⟨rfl,HF⟩
def fL(K op:Int)(A:Option Addr)(n c:Nat)(N H:ByteArray)(y:nS):(Instr.field 50 (.agg #[K,op,nC A n c,nH N,nH H]) 0).run Tryz.prog y=.ok (.agg #[K,op,nC A n c,nH N]) y:=by kernel_rfl
def gT(K op:Int)(A:Option Addr)(n c:Nat)(N:ByteArray)(y:nS):(Instr.field 26 (.agg #[K,op,nC A n c,nH N]) 2).run Tryz.prog y=.ok (.agg #[nC A n c]) y:=by kernel_rfl
def gM{w:nS}{U:nU}(h:Ed B w mb T U)(I:T[k]?=nJ p)(C:p.1.leaf=j){n:Nat}(J:GB w U j K op A n c N H) :
  () 225 #[(mb,0),k] w fun e w'=>e=nP (.agg #[nC A n c])/\Below w w w':=by
 have h0:=AE w (nO #[nC nK 0 0] 24);have HV:=Hd (jN (h.later h0) I C (J.later h0));have o:=Hd h0;have t:=Hd (Ah.new w 24 #[nC nK 0 0]);have e1:=fL K op A n c N H;have e2:=gT K op A n c N;clear h I C J h0;go_enter func225,ntmps225
 go_wp2_with (
   go_at_call 242;refine HV.mono ?_;rintro e w1 ⟨rfl,l⟩;have HB:=Hd l
   have i:=t.below l t.lt;have HQ:=Hd i;have u0:=i.cell 0;have f0:=i.frozen 0;have ul:=i.lt;simp at u0;clear l i)
 have h2:=HQ.AW 0 (nC A n c);have R:=h2.cell 0;have P:=o.trans (HB.mono o.size);have hB:=P.trans (((Aj.refl (fun b=>b=w.heap.size) w1).set (p:=⟨w.heap.size,0,nK⟩) (.inr rfl) (nC A n c)).below P.size fun b l hx=>by omega);simp at R;refine bodyPost_ret (v:=.agg #[nC A n c]) (by simp[results,Tryz.f225,go_sem,R]) rfl ?_;exact⟨rfl,hB⟩
def OH{w:nS}{x:Nat}(h:Ed B w mb T vv)(I:Gy w mb S)(J:T[i]?=nJ p)(U:p.1.kids[0]?=nJ x)(P:T[x]?=nJ q)(R:((q.1.sym:Int)==S s)=false)(hz:s.size<=100:=by decide) :
  () 111 #[(mb,0),i,nH s] w fun e w'=>∃A c,e=nP (nC A 1 c)/\w'.ownsRow w 3 1 (nC A 1 c) 1 [nE nM (i:Nat)]/\Below w w w':=by
 have HK:=Hd fun y (t:Below w w y)=>IE (h.later t) J (q:=0) (.inl rfl) U
 have C:=Hd fun y (t:Below w w y)=>Mf (h.later t) (I.later t) P s hz
 rw[R]at C;have a0:=Hd (Md 3 (nE nM (i:Nat)) rfl);have hm:Hid (∀y,Below w w y->y.ownsRow w 3 1 (nC nK 0 0) 0 []):=Hd fun y _=>⟨rfl,.inl ⟨rfl,rfl⟩⟩
 clear h I J U P R;go_enter func111,ntmps111
 go_wp2;go_loopw [1,7] (fun iv a1 wr=>iv=nE nM i/\a1=nC nK 0 0/\wr=w) (fun _ _ _=>0)
 case atStart=>exact⟨rfl,rfl,rfl⟩
 case round=>
  obtain⟨rfl,rfl,rfl⟩:=hrel;go_wp2_with (first
   | (
    at_builtin;refine Du LH (.tmp 10) (.tmp 12) rfl rfl (base:=wr.heap.size) (n:=0) (m:=1) (N:=1) (xs:=[]) (news:=[nE nM (i:Nat)]) rfl rfl (hm _ (AE _ _)) (a0 _) rfl mW mR mV ?_
    intro A6 c6 w6 r1 r2 r3;have o:=Hd r1;have j:=Hd ((AE _ _).trans (r2.below mV));clear r1 r2 r3)
   | (go_at_call 43;refine(HK _ j).mono ?_;rintro e w7 ⟨rfl,l⟩;replace o:=Hd (AV o l);replace j:=Hd (j.trans (l.mono j.size));clear l)
   | (go_at_call 113;refine(C _ j).mono ?_;rintro e w7 ⟨rfl,l⟩;replace o:=Hd (AV o l);replace j:=Hd (j.trans (l.mono j.size));clear l))
  rename nS=>w8
  go_loopw [8,9] (fun a b a2=>a=nE nM 0/\b=nE nM 0/\a2=w8) (fun _ _ _=>0)
  case atStart=>exact⟨rfl,rfl,rfl⟩
  case round=>obtain⟨rfl,rfl,rfl⟩:=hrel;go_wp2;go_ret;exact⟨_,_,rfl,o,j⟩
def G6(w:nS)(e:Ending)(w':nS):Prop:=∃A c,e=nP (.agg #[nE nM 4,nH ⟨#[]⟩,nI false,nI false,nC nK 0 0,nC nK 0 0,nC A 1 c,nC nK 0 0,nC nK 0 0,nC nK 0 0])/\Below w w w'
def Wr:El Tryz.prog 41 24 1 24:=El.of (z:=.agg #[nC nK 0 0]) underlying41 mU mU mT
def Ph:El Tryz.prog 44 46 10 176:=El.of (z:=.agg #[nE nM 0,nH ⟨#[]⟩,nI false,nI false,nC nK 0 0,nC nK 0 0,nC nK 0 0,nC nK 0 0,nC nK 0 0,nC nK 0 0]) underlying44 mU mU mT
structure Dh(w y:nS)(nb:Nat)(b:Array nU):Prop where
 be:Below w w y
 x:Ah y w.heap.size 46 #[nE nM 0,nH ⟨#[]⟩,nI false,nI false,nC nK 0 0,nC nK 0 0,nC nK 0 0,nC nK 0 0,nC nK 0 0,nC nK 0 0]
 n:Ah y nb 46 b
 lo:w.heap.size<nb
variable{w y:nS}{b:Array nU}{x:Nat}
def Dh.later{z:nS}(h:Dh w y j b)(i:Below y y z):Dh w z j b:=⟨h.be.trans (i.mono h.be.size),h.x.below i h.x.lt,h.n.below i h.n.lt,h.lo⟩
def Dh.next{w y:nS}(h:Below (w.alloc (nO #[nE nM 0,nH ⟨#[]⟩,nI false,nI false,nC nK 0 0,nC nK 0 0,nC nK 0 0,nC nK 0 0,nC nK 0 0,nC nK 0 0] 46)).heap.size (w.alloc (nO #[nE nM 0,nH ⟨#[]⟩,nI false,nI false,nC nK 0 0,nC nK 0 0,nC nK 0 0,nC nK 0 0,nC nK 0 0,nC nK 0 0] 46)) y)(b:Array nU):Dh w (y.alloc (nO b 46)) y.heap.size b:=by
 have i:=(Ah.new w 46 #[nE nM 0,nH ⟨#[]⟩,nI false,nI false,nC nK 0 0,nC nK 0 0,nC nK 0 0,nC nK 0 0,nC nK 0 0,nC nK 0 0]).below h (Ah.new w 46 #[nE nM 0,nH ⟨#[]⟩,nI false,nI false,nC nK 0 0,nC nK 0 0,nC nK 0 0,nC nK 0 0,nC nK 0 0,nC nK 0 0]).lt;have j:=h.size;simp at j;exact⟨((AE w _).trans (h.mono mV)).alloc mR _,i.alloc _,Ah.new y _ _,mR⟩
def Dh.new(w:nS)(b:Array nU):Dh w ((w.alloc (nO #[nE nM 0,nH ⟨#[]⟩,nI false,nI false,nC nK 0 0,nC nK 0 0,nC nK 0 0,nC nK 0 0,nC nK 0 0,nC nK 0 0] 46)).alloc (nO b 46)) (w.heap.size+1) b:=by have h:=Dh.next (Below.refl _ (w.alloc (nO #[nE nM 0,nH ⟨#[]⟩,nI false,nI false,nC nK 0 0,nC nK 0 0,nC nK 0 0,nC nK 0 0,nC nK 0 0,nC nK 0 0] 46))) b;rwa [show (w.alloc (nO #[nE nM 0,nH ⟨#[]⟩,nI false,nI false,nC nK 0 0,nC nK 0 0,nC nK 0 0,nC nK 0 0,nC nK 0 0,nC nK 0 0] 46)).heap.size=w.heap.size+1 by simp]at h
def Dh.set(h:Dh w y i b)(k:Nat)(v:nU):Dh w (y.setCell (i,k) v) i (b.setIfInBounds k v):=⟨h.be.setCell (p:=⟨i,k,nK⟩) (by have:=h.lo;simp;omega) _,h.x.BC (by have:=h.lo;simp;omega) _,h.n.AW k v,h.lo⟩
def E7(y:nS)(g:Nat)(b:Array nU):Prop:=g<y.heap.size/\∀j v,b[j]?=nJ v->nQ y (g,0+j)=nJ v
def E7.later{z:nS}(h:E7 y g b)(i:Below y y z):E7 z g b:=⟨AK h.1 i.size,fun j v l=>(i.cell (p:=⟨g,_,nK⟩) h.1).trans (h.2 j v l)⟩
def E7.Ay{z:nS}{X:Nat->Prop}(h:E7 y g b)(i:Aj X y z)(o:¬X g):E7 z g b:=⟨AK h.1 i.size,fun j v l=>(World.cell?_of_block (a:=⟨g,_,nK⟩) (i.block g h.1 o)).trans (h.2 j v l)⟩
def E7.of{xs:List nU}(h:y.ownsRow B 46 10 (nC A 1 c) 1 xs)(I:xs.length=10):∃g,A=nJ ⟨g,0,nK⟩/\B<=g/\E7 y g xs.toArray:=by
 rcases Bg h with⟨-,e⟩|⟨g,t,e,l,o,-⟩
 ·cases e
 ·cases e
  refine⟨g,rfl,l,o,fun j v p=>?_⟩;have i:xs[j]?=nJ v:=by simpa using p
  have C:=(sG.1 i).1;rw[Nat.zero_add,Bb h j mR];exact i
def Jl{fn:Func}{p:Tmp}{ty:TypeId}{P:Program}{tmps:Array nU}{a:Addr}{v:nU}(h:fn.results=#[.cell p ty])(i:tmps.getD p undef=nF (nJ a))(j:(loadVar ty a).run P w=.ok v w):(results fn tmps).run P w=.ok v w:=by rw[Array.getD_eq_getD_getElem?]at i;simp only[results,h];simp[i,asAddr,j]
def EV{k:Int}{b c:Bool}{A1 A2 A3 A4 A5 A6:Option Addr}{n1 n2 n3 n4 n5 n6 c1 c2 c3 c4 c5 c6:Nat}(h:Ah y g 46 #[k,nH s,nI b,nI c,nC A1 n1 c1,nC A2 n2 c2,nC A3 n3 c3,nC A4 n4 c4,nC A5 n5 c5,nC A6 n6 c6]):nQ y (g,0)=nJ (nE nM k)/\nQ y (g,1)=nJ (nH s)/\nQ y (g,2)=nJ (nI b)/\nQ y (g,3)=nJ (nI c)/\nQ y (g,4)=nJ (nC A1 n1 c1)/\nQ y (g,5)=nJ (nC A2 n2 c2)/\nQ y (g,6)=nJ (nC A3 n3 c3)/\nQ y (g,7)=nJ (nC A4 n4 c4)/\nQ y (g,8)=nJ (nC A5 n5 c5)/\nQ y (g,9)=nJ (nC A6 n6 c6)/\y.frozen? (g,0)=false/\y.frozen? (g,1)=false/\y.frozen? (g,2)=false/\y.frozen? (g,3)=false/\y.frozen? (g,4)=false/\y.frozen? (g,5)=false/\y.frozen? (g,6)=false/\y.frozen? (g,7)=false/\y.frozen? (g,8)=false/\y.frozen? (g,9)=false/\g<y.heap.size:=by
 have u0:=h.cell 0;simp at u0;exact⟨u0,h.cell 1,h.cell 2,h.cell 3,h.cell 4,h.cell 5,h.cell 6,h.cell 7,h.cell 8,h.cell 9,h.frozen 0,h.frozen 1,h.frozen 2,h.frozen 3,h.frozen 4,h.frozen 5,h.frozen 6,h.frozen 7,h.frozen 8,h.frozen 9,h.lt⟩
def fN{o:Nat}{k:Int}{b c:Bool}{A1 A2 A3 A4 A5 A6:Option Addr}{n1 n2 n3 n4 n5 n6 c1 c2 c3 c4 c5 c6:Nat}(h:∀j v,#[nE nM k,nH s,nI b,nI c,nC A1 n1 c1,nC A2 n2 c2,nC A3 n3 c3,nC A4 n4 c4,nC A5 n5 c5,nC A6 n6 c6][j]?=nJ v->nQ y ⟨g,o+j,nK⟩=nJ v):(loadVar 46 ⟨g,o,nK⟩).run Tryz.prog y=.ok (.agg #[nE nM k,nH s,nI b,nI c,nC A1 n1 c1,nC A2 n2 c2,nC A3 n3 c3,nC A4 n4 c4,nC A5 n5 c5,nC A6 n6 c6]) y:=by have h0:=h 0 _ rfl;have i:=h 1 _ rfl;have l:=h 2 _ rfl;have p:=h 3 _ rfl;have t:=h 4 _ rfl;have C:=h 5 _ rfl;have I:=h 6 _ rfl;have J:=h 7 _ rfl;have P:=h 8 _ rfl;have R:=h 9 _ rfl;simp only[Nat.add_zero]at h0;clear h;simp[go_sem,h0,i,l,p,t,C,I,J,P,R]
def G5{k:Int}{b c:Bool}{A1 A2 A3 A4 A5 A6:Option Addr}{n1 n2 n3 n4 n5 n6 c1 c2 c3 c4 c5 c6:Nat}(h:Ah y g 46 #[nE nM 0,nH ⟨#[]⟩,nI false,nI false,nC nK 0 0,nC nK 0 0,nC nK 0 0,nC nK 0 0,nC nK 0 0,nC nK 0 0]):(loadVar 46 ⟨g,0,nK⟩).run Tryz.prog ((((((((((y.setCell ⟨g,0,nK⟩ (nE nM k)).setCell ⟨g,1,nK⟩ (nH s)).setCell ⟨g,2,nK⟩ (nI b)).setCell ⟨g,3,nK⟩ (nI c)).setCell ⟨g,4,nK⟩ (nC A1 n1 c1)).setCell ⟨g,5,nK⟩ (nC A2 n2 c2)).setCell ⟨g,6,nK⟩ (nC A3 n3 c3)).setCell ⟨g,7,nK⟩ (nC A4 n4 c4)).setCell ⟨g,8,nK⟩ (nC A5 n5 c5)).setCell ⟨g,9,nK⟩ (nC A6 n6 c6))=.ok (.agg #[nE nM k,nH s,nI b,nI c,nC A1 n1 c1,nC A2 n2 c2,nC A3 n3 c3,nC A4 n4 c4,nC A5 n5 c5,nC A6 n6 c6]) ((((((((((y.setCell ⟨g,0,nK⟩ (nE nM k)).setCell ⟨g,1,nK⟩ (nH s)).setCell ⟨g,2,nK⟩ (nI b)).setCell ⟨g,3,nK⟩ (nI c)).setCell ⟨g,4,nK⟩ (nC A1 n1 c1)).setCell ⟨g,5,nK⟩ (nC A2 n2 c2)).setCell ⟨g,6,nK⟩ (nC A3 n3 c3)).setCell ⟨g,7,nK⟩ (nC A4 n4 c4)).setCell ⟨g,8,nK⟩ (nC A5 n5 c5)).setCell ⟨g,9,nK⟩ (nC A6 n6 c6))/\Aj (fun j=>j=g) y ((((((((((y.setCell ⟨g,0,nK⟩ (nE nM k)).setCell ⟨g,1,nK⟩ (nH s)).setCell ⟨g,2,nK⟩ (nI b)).setCell ⟨g,3,nK⟩ (nI c)).setCell ⟨g,4,nK⟩ (nC A1 n1 c1)).setCell ⟨g,5,nK⟩ (nC A2 n2 c2)).setCell ⟨g,6,nK⟩ (nC A3 n3 c3)).setCell ⟨g,7,nK⟩ (nC A4 n4 c4)).setCell ⟨g,8,nK⟩ (nC A5 n5 c5)).setCell ⟨g,9,nK⟩ (nC A6 n6 c6)):=by
 have i:Ah ((((((((((y.setCell ⟨g,0,nK⟩ (nE nM k)).setCell ⟨g,1,nK⟩ (nH s)).setCell ⟨g,2,nK⟩ (nI b)).setCell ⟨g,3,nK⟩ (nI c)).setCell ⟨g,4,nK⟩ (nC A1 n1 c1)).setCell ⟨g,5,nK⟩ (nC A2 n2 c2)).setCell ⟨g,6,nK⟩ (nC A3 n3 c3)).setCell ⟨g,7,nK⟩ (nC A4 n4 c4)).setCell ⟨g,8,nK⟩ (nC A5 n5 c5)).setCell ⟨g,9,nK⟩ (nC A6 n6 c6)) g 46 #[nE nM k,nH s,nI b,nI c,nC A1 n1 c1,nC A2 n2 c2,nC A3 n3 c3,nC A4 n4 c4,nC A5 n5 c5,nC A6 n6 c6]:=by simpa using((((((((((h.AW 0 (nE nM k)).AW 1 (nH s)).AW 2 (nI b)).AW 3 (nI c)).AW 4 (nC A1 n1 c1)).AW 5 (nC A2 n2 c2)).AW 6 (nC A3 n3 c3)).AW 7 (nC A4 n4 c4)).AW 8 (nC A5 n5 c5)).AW 9 (nC A6 n6 c6))
 exact⟨fN (fun j v l=>by rw[Nat.zero_add];exact(i.cell j).trans l),(((((((((((Aj.refl (fun j=>j=g) y).set (p:=⟨g,0,nK⟩) (.inr rfl) (nE nM k)).set (p:=⟨g,1,nK⟩) (.inr rfl) (nH s)).set (p:=⟨g,2,nK⟩) (.inr rfl) (nI b)).set (p:=⟨g,3,nK⟩) (.inr rfl) (nI c)).set (p:=⟨g,4,nK⟩) (.inr rfl) (nC A1 n1 c1)).set (p:=⟨g,5,nK⟩) (.inr rfl) (nC A2 n2 c2)).set (p:=⟨g,6,nK⟩) (.inr rfl) (nC A3 n3 c3)).set (p:=⟨g,7,nK⟩) (.inr rfl) (nC A4 n4 c4)).set (p:=⟨g,8,nK⟩) (.inr rfl) (nC A5 n5 c5)).set (p:=⟨g,9,nK⟩) (.inr rfl) (nC A6 n6 c6))⟩
def X8{y:Nat}{r:Nd×nU}(h:Ed B w mb T vv)(hn:Gy w mb S)(hp:T[i]?=nJ p)(hx:p.1.kids=[x])(hq:T[x]?=nJ q)(J:q.1.kids[0]?=nJ y)(hr:T[y]?=nJ r)(hj:r.1.leaf=j){n:Nat}(hv:GB w vv j K op A n c N H)(a3:((q.1.sym:Int)==S ⟨#[112,114,101,102,105,120]⟩)=false)(a4:((q.1.sym:Int)==S ⟨#[115,117,102,102,105,120]⟩)=false) :
  () 206 #[(mb,0),i] w (G6 w):=by
 have HA:=Hd fun y (J:Below w w y)=>KJ (h.later J) hp
 have HW:=Hd fun y (J:Below w w y)=>gM (h.later J) hr hj (hv.later J)
 have HK:=Hd fun z (C:Below w w z)=>IE (h.later C) hq (q:=0) (.inl rfl) J
 have a0:=Hd fun z (C:Below w w z)=>Mf (h.later C) (hn.later C) hq ⟨#[112,114,101,102,105,120]⟩
 have a1:=Hd fun z (C:Below w w z)=>Mf (h.later C) (hn.later C) hq ⟨#[115,117,102,102,105,120]⟩
 rw[a3]at a0;rw[a4]at a1;have a5:=N1 p.1.sym p.1.leaf p.1.AX;unfold Nn at HA;rw[hx]at HA;have H2:=Hd (Dh.new w #[nE nM 4,nH ⟨#[]⟩,nI false,nI false,nC nK 0 0,nC nK 0 0,nC nK 0 0,nC nK 0 0,nC nK 0 0,nC nK 0 0]);clear h hn hp hx hq J hr hj hv a3 a4;go_enter func206,ntmps206
 go_upto_region 3 with(
     go_at_call 41;refine(HA _ H2.be).mono ?_;rintro e w3 ⟨A1,c1,rfl,ho,t⟩
     have l:=Hd (H2.later t);obtain⟨g,rfl,gl,d0⟩:∃g,A1=nJ ⟨g,0,nK⟩/\g<w3.heap.size/\nQ w3 ⟨g,0,nK⟩=nJ (nE nM x):=by
      rcases Bg ho with⟨-,e⟩|⟨g,c',e,-,hg,-⟩
      ·cases e
      ·cases e
       refine⟨g,rfl,hg,?_⟩;rw[Bb ho 0 mV];rfl
     clear ho t)
 go_loopw [14] (fun iv wr=>(iv=nE nM 0/\wr=w3)\/(iv=nE nM 1/\∃A c,Hid (Dh w wr (w.heap.size+1) #[nE nM 4,nH ⟨#[]⟩,nI false,nI false,nC nK 0 0,nC nK 0 0,nC A 1 c,nC nK 0 0,nC nK 0 0,nC nK 0 0]))) (fun iv _=>1-(intOf iv).toNat)
 case atStart=>exact .inl ⟨rfl,rfl⟩
 case round=>
  rcases hrel with⟨rfl,rfl⟩|⟨rfl,A4,c4,I⟩
  ·go_upto_region 5 with(first
    | (go_at_call 113;(with_reducible refine(a0.out _ l.out.be).mono ?_);rintro e w4 ⟨rfl,t⟩;replace l:=Hd (l.later t);clear t)
    | (go_at_call 113;(with_reducible refine(a1.out _ l.out.be).mono ?_);rintro e w4 ⟨rfl,t⟩;replace l:=Hd (l.later t);clear t))
   have R:Hid (∀z,Dh w z (w.heap.size+1) #[nE nM 4,nH ⟨#[]⟩,nI false,nI false,nC nK 0 0,nC nK 0 0,nC nK 0 0,nC nK 0 0,nC nK 0 0,nC nK 0 0]->(fun z:nS=>nQ z (w.heap.size+1,6)=nJ (nC nK 0 0)/\w.heap.size+1<z.heap.size) z):=Hd fun z C=>⟨C.n.cell 6,C.n.lt⟩
   replace l:=Hd (l.later (Below.refl _ _).drew);refine CO 10 (fun z:nS=>nQ z (w.heap.size+1,6)=nJ (nC nK 0 0)/\w.heap.size+1<z.heap.size) mU ?_;have a2:=R _ l;refine FE [0,1,2,3,4] a2 ?_;clear a2;refine Co 5 mU rfl rfl rfl (fun K o=>?_);go_simp;refine(HK _ l.be).mono ?_;rintro e w5 ⟨rfl,t⟩;replace l:=Hd (l.later t);clear t;refine o _ _ (fun _=>R _ l) ?_;clear o K;simp only[AD,AA];refine Co 6 mU rfl rfl rfl (fun K o=>?_);go_simp;refine(HW _ l.be).mono ?_
   rintro e U ⟨rfl,t⟩;replace l:=Hd (l.later t);clear t;refine o _ _ (fun _=>R _ l) ?_;clear o K;simp only[AD,AA];refine Co 7 mU rfl rfl rfl (fun K o=>?_);go_simp;have H4:=Hd (l.later (AE U (nO #[nC A n c] 24)));refine o _ _ (fun _=>R _ H4) ?_;clear o K;simp only[AD,AA];refine Co 8 mU rfl rfl rfl (fun K o=>?_);refine Dt Wr (.tmp 19) (.tmp 25) rfl (base:=U.heap.size) (n:=0) (m:=1) (N:=1) (v:=nC nK 0 0) (src:=nC (U,0) 1 1) (xs:=[]) (news:=[nC A n c]) rfl rfl ⟨rfl,.inl ⟨rfl,rfl⟩⟩ (Ba.Ap (c:=1) (Ah.new U 24 _) rfl mZ) rfl mW mR mV ?_
   intro A7 c7 w7 r1 r2 r3;have P:=Hd (l.later ((AE U _).trans (r2.below mV)));clear r1 r2 r3;refine o _ _ (fun _=>R _ P) ?_;clear o K;simp only[AD,AA];have x6:=P.n.cell 6;have f6:=P.n.frozen 6;have xl:=P.n.lt;simp at x6;refine Be 9 mU rfl rfl (fun K o=>?_);go_simp;refine o _ _ (fun _=>R _ P) ?_;clear o K;refine Be 10 mU rfl rfl (fun K o=>?_);go_simp;refine o _ _ (fun h=>absurd rfl h) ?_;clear o K;refine CI mU ?_ _;have H6:=P.set 6 (nC A7 1 c7);simp at H6
   have I:=Hd H6;clear H6 x6 f6 xl;generalize w7.setCell (w.heap.size+1,6) (nC A7 1 c7)=W7 at *;go_wp2;go_roundw
   case rel=>exact .inr ⟨rfl,_,_,I⟩
   case measure=>simp[intOf]
  ·obtain⟨u0,u1,u2,u3,u4,u5,u6,u7,u8,u9,-,-,-,-,-,-,-,-,-,-,ul⟩:=EV I.n
   obtain⟨v0,v1,v2,v3,v4,v5,v6,v7,v8,v9,f0,f1,f2,f3,f4,f5,f6,f7,f8,f9,vl⟩:=EV I.x;go_wp2;obtain⟨hl,hc⟩:=G5 (k:=4) (s:=⟨#[]⟩) (b:=false) (c:=false) (A1:=nK) (n1:=0) (c1:=0) (A2:=nK) (n2:=0) (c2:=0) (A3:=A4) (n3:=1) (c3:=c4) (A4:=nK) (n4:=0) (c4:=0) (A5:=nK) (n5:=0) (c5:=0) (A6:=nK) (n6:=0) (c6:=0) I.x;exact bodyPost_ret (Jl rfl rfl hl) rfl ⟨_,_,rfl,I.be.trans (hc.below I.be.size fun b t hx=>by omega)⟩
def S9(w:nS)(e:Ending)(w':nS):Prop:=∃g i c4 c,e=nP (.agg #[nE nM 1,nH ⟨#[]⟩,nI false,nI false,nC nK 0 0,nC nK 0 0,nC nK 0 0,nC nK 0 0,nC nK 0 0,nC (nJ ⟨g,0,nK⟩) 1 c])/\E7 w' g #[nE nM 4,nH ⟨#[]⟩,nI false,nI false,nC nK 0 0,nC nK 0 0,nC i 1 c4,nC nK 0 0,nC nK 0 0,nC nK 0 0]/\w.heap.size<=g/\Below w w w'
def N8{B c x:Nat}(h:w.ownsRow B 3 1 (nC A 1 c) 1 [nE nM (x:Nat)]):∃g,A=nJ ⟨g,0,nK⟩/\g<w.heap.size/\nQ w ⟨g,0,nK⟩=nJ (nE nM x):=by
 rcases Bg h with⟨-,e⟩|⟨g,j,e,-,i,-⟩
 ·cases e
 ·cases e
  refine⟨g,rfl,i,?_⟩;rw[Bb h 0 mV];rfl
def X9(h:Ed B w mb T vv)(hn:Gy w mb S)(hp:T[i]?=nJ p)(P:p.1.kids=[x])(hq:T[x]?=nJ q)(hs:((q.1.sym:Int)==S ⟨#[97,110,100,111,114]⟩)=false)(hc:∀y,Below w w y->() 143 #[(mb,0),x] y (G6 y)) :
  () 112 #[(mb,0),i] w (G6 w):=by
 have HK:=Hd fun y (hy:Below w w y)=>IE (h.later hy) hp (q := -1) (j:=0) (.inr ⟨mT,by rw[P];rfl⟩) (by rw[P];rfl)
 have a2:=Hd fun y (hy:Below w w y)=>OH (h.later hy) (hn.later hy) hp (by rw[P];rfl) hq hs
 have HC:Hid (∀y,Below w w y->() 143 #[(mb,0),x] y (G6 y)):=Hd hc;have H2:=Hd (Dh.new w #[nE nM 2,nH ⟨#[]⟩,nI false,nI false,nC nK 0 0,nC nK 0 0,nC nK 0 0,nC nK 0 0,nC nK 0 0,nC nK 0 0]);clear h hn hp P hq hs hc;go_enter func112,ntmps112
 go_upto_region 3 with(go_at_call 111;refine(a2 _ H2.be).mono ?_;rintro e w3 ⟨A1,c1,rfl,ho,t⟩;have o:=Hd (H2.later t);obtain⟨g,rfl,gl,d0⟩:=N8 ho;clear ho t)
 go_loopw [14] (fun iv wr=>(iv=nE nM 0/\wr=w3)\/(iv=nE nM 1/\∃g J c4 c,Hid (Dh w wr (w.heap.size+1) #[nE nM 2,nH ⟨#[]⟩,nI false,nI false,nC nK 0 0,nC nK 0 0,nC nK 0 0,nC nK 0 0,nC nK 0 0,nC (nJ ⟨g,0,nK⟩) 1 c]/\E7 wr g #[nE nM 4,nH ⟨#[]⟩,nI false,nI false,nC nK 0 0,nC nK 0 0,nC J 1 c4,nC nK 0 0,nC nK 0 0,nC nK 0 0]/\w.heap.size<g))) (fun iv _=>1-(intOf iv).toNat)
 case atStart=>exact .inl ⟨rfl,rfl⟩
 case round=>
  rcases hrel with⟨rfl,rfl⟩|⟨rfl,g,J,c4,cg,j⟩
  ·go_upto_region 10 with fail
   have I:Hid (∀z,Dh w z (w.heap.size+1) #[nE nM 2,nH ⟨#[]⟩,nI false,nI false,nC nK 0 0,nC nK 0 0,nC nK 0 0,nC nK 0 0,nC nK 0 0,nC nK 0 0]->(fun z:nS=>nQ z (w.heap.size+1,9)=nJ (nC nK 0 0)/\w.heap.size+1<z.heap.size) z):=Hd fun z hz=>⟨hz.n.cell 9,hz.n.lt⟩
   replace o:=Hd (o.later (Below.refl _ _).drew);refine CO 10 (fun z:nS=>nQ z (w.heap.size+1,9)=nJ (nC nK 0 0)/\w.heap.size+1<z.heap.size) mU ?_;have a0:=I _ o;refine FE [0,1,2,3,4] a0 ?_;clear a0;refine Co 5 mU rfl rfl rfl (fun K l=>?_);go_simp;refine(HK _ o.be).mono ?_;rintro e w5 ⟨rfl,t⟩;replace o:=Hd (o.later t);clear t;refine l _ _ (fun _=>I _ o) ?_;clear l K;simp only[AD,AA];refine Co 6 mU rfl rfl rfl (fun K l=>?_);go_simp;refine(HC _ o.be).mono ?_
   rintro e R ⟨J,c4,rfl,t⟩;replace o:=Hd (o.later t);clear t;refine l _ _ (fun _=>I _ o) ?_;clear l K;simp only[AD,AA];refine Co 7 mU rfl rfl rfl (fun K l=>?_);go_simp;have H4:=Hd (o.later (AE R (nO #[nE nM 4,nH ⟨#[]⟩,nI false,nI false,nC nK 0 0,nC nK 0 0,nC J 1 c4,nC nK 0 0,nC nK 0 0,nC nK 0 0] 46)));refine l _ _ (fun _=>I _ H4) ?_;clear l K;simp only[AD,AA];refine Co 8 mU rfl rfl rfl (fun K l=>?_);refine Dt Ph (.tmp 33) (.tmp 39) rfl (base:=R.heap.size) (n:=0) (m:=1) (N:=1) (v:=nC nK 0 0) (src:=nC (R,0) 1 1) (xs:=[]) (news:=[nE nM 4,nH ⟨#[]⟩,nI false,nI false,nC nK 0 0,nC nK 0 0,nC J 1 c4,nC nK 0 0,nC nK 0 0,nC nK 0 0]) rfl rfl ⟨rfl,.inl ⟨rfl,rfl⟩⟩ (Ba.Ap (c:=1) (Ah.new R 46 _) rfl mZ) rfl mW mR mV ?_
   intro A7 c7 w7 r1 r2 r3;obtain⟨g,rfl,hg,hr⟩:=E7.of r1 rfl;have C:=Hd (o.later ((AE R _).trans (r2.below mV)));have a1:w.heap.size+1<g:=AK o.n.lt hg;have HR:=Hd (And.intro hr a1);clear r1 r2 r3 hr a1 hg;refine l _ _ (fun _=>I _ C) ?_;clear l K;simp only[AD,AA];have x9:=C.n.cell 9;have f9:=C.n.frozen 9;have xl:=C.n.lt;simp at x9;refine Be 9 mU rfl rfl (fun K l=>?_);go_simp;refine l _ _ (fun _=>I _ C) ?_;clear l K;refine Be 10 mU rfl rfl (fun K l=>?_);go_simp
   refine l _ _ (fun h=>absurd rfl h) ?_;clear l K;refine CI mU ?_ _;have U:=C.set 9 (nC (nJ ⟨g,0,nK⟩) 1 c7);simp at U;have a3:=U.lo;have j:=Hd (And.intro U (And.intro (HR.1.Ay ((Aj.refl (fun a4=>a4=w.heap.size+1) w7).set (p:=⟨w.heap.size+1,9,nK⟩) (.inr rfl) (nC (nJ ⟨g,0,nK⟩) 1 c7)) (fun e=>by have:=HR.2;omega)) (show w.heap.size<g by have:=HR.2;omega)));clear U x9 f9 xl a3 HR C H4 I;generalize w7.setCell (w.heap.size+1,9) (nC (nJ ⟨g,0,nK⟩) 1 c7)=W7 at *;go_wp2;go_roundw
   case rel=>exact .inr ⟨rfl,_,_,_,_,j⟩
   case measure=>simp[intOf]
  ·obtain⟨u0,u1,u2,u3,u4,u5,u6,u7,u8,u9,-,-,-,-,-,-,-,-,-,-,ul⟩:=EV j.1.n
   obtain⟨v0,v1,v2,v3,v4,v5,v6,v7,v8,v9,f0,f1,f2,f3,f4,f5,f6,f7,f8,f9,vl⟩:=EV j.1.x;have r0:=j.2.1.2 0 _ rfl;have r1:=j.2.1.2 1 _ rfl;have r2:=j.2.1.2 2 _ rfl;have r3:=j.2.1.2 3 _ rfl;have r4:=j.2.1.2 4 _ rfl;have r5:=j.2.1.2 5 _ rfl;have r6:=j.2.1.2 6 _ rfl;have r7:=j.2.1.2 7 _ rfl;have r8:=j.2.1.2 8 _ rfl;have r9:=j.2.1.2 9 _ rfl;have rl:=j.2.1.1;simp only[Nat.zero_add,Nat.add_zero]at r0 r1 r2 r3 r4 r5 r6 r7 r8 r9;go_wp2;obtain⟨hl,hc⟩:=G5 (k:=4) (s:=⟨#[]⟩) (b:=false) (c:=false) (A1:=nK) (n1:=0) (c1:=0) (A2:=nK) (n2:=0) (c2:=0) (A3:=J) (n3:=1) (c3:=c4) (A4:=nK) (n4:=0) (c4:=0) (A5:=nK) (n5:=0) (c5:=0) (A6:=nK) (n6:=0) (c6:=0) j.1.x
   exact bodyPost_ret (Jl rfl rfl hl) rfl ⟨_,_,rfl,j.1.be.trans (hc.below j.1.be.size fun b t P=>by omega)⟩
def YY(h:Ed B w mb T vv)(hn:Gy w mb S)(hp:T[i]?=nJ p)(R:p.1.kids=[x])(hq:T[x]?=nJ q)(hs:((q.1.sym:Int)==S ⟨#[108,105,115,116]⟩)=false)(P:∀y,Below w w y->() 112 #[(mb,0),x] y (G6 y)) :
  () 75 #[(mb,0),i,nH ⟨#[108,105,115,116]⟩] w (S9 w):=by
 have HK:=Hd fun y (hy:Below w w y)=>IE (h.later hy) hp (q := -1) (j:=0) (.inr ⟨mT,by rw[R];rfl⟩) (by rw[R];rfl)
 have a2:=Hd fun y (hy:Below w w y)=>OH (h.later hy) (hn.later hy) hp (by rw[R];rfl) hq hs
 have HC:Hid (∀y,Below w w y->() 112 #[(mb,0),x] y (G6 y)):=Hd P;have H2:=Hd (Dh.new w #[nE nM 1,nH ⟨#[]⟩,nI false,nI false,nC nK 0 0,nC nK 0 0,nC nK 0 0,nC nK 0 0,nC nK 0 0,nC nK 0 0]);clear h hn hp R hq hs P;go_enter func75,ntmps75
 go_upto_region 3 with(go_at_call 111;refine(a2 _ H2.be).mono ?_;rintro e w3 ⟨A1,c1,rfl,ho,t⟩;have l:=Hd (H2.later t);obtain⟨g,rfl,gl,d0⟩:=N8 ho;clear ho t)
 go_loopw [16] (fun iv wr=>(iv=nE nM 0/\wr=w3)\/(iv=nE nM 1/\∃g J c4 c,Hid (Dh w wr (w.heap.size+1) #[nE nM 1,nH ⟨#[]⟩,nI false,nI false,nC nK 0 0,nC nK 0 0,nC nK 0 0,nC nK 0 0,nC nK 0 0,nC (nJ ⟨g,0,nK⟩) 1 c]/\E7 wr g #[nE nM 4,nH ⟨#[]⟩,nI false,nI false,nC nK 0 0,nC nK 0 0,nC J 1 c4,nC nK 0 0,nC nK 0 0,nC nK 0 0]/\w.heap.size<g))) (fun iv _=>1-(intOf iv).toNat)
 case atStart=>exact .inl ⟨rfl,rfl⟩
 case round=>
  rcases hrel with⟨rfl,rfl⟩|⟨rfl,g,J,c4,cg,o⟩
  ·go_upto_region 7 with fail
   have I:Hid (∀z,Dh w z (w.heap.size+1) #[nE nM 1,nH ⟨#[]⟩,nI false,nI false,nC nK 0 0,nC nK 0 0,nC nK 0 0,nC nK 0 0,nC nK 0 0,nC nK 0 0]->(fun z:nS=>nQ z (w.heap.size+1,9)=nJ (nC nK 0 0)/\w.heap.size+1<z.heap.size) z):=Hd fun z hz=>⟨hz.n.cell 9,hz.n.lt⟩
   replace l:=Hd (l.later (Below.refl _ _).drew);refine CO 10 (fun z:nS=>nQ z (w.heap.size+1,9)=nJ (nC nK 0 0)/\w.heap.size+1<z.heap.size) mU ?_;have a0:=I _ l;refine FE [0,1,2,3,4] a0 ?_;clear a0;refine Co 5 mU rfl rfl rfl (fun K j=>?_);go_simp;refine(HK _ l.be).mono ?_;rintro e w5 ⟨rfl,t⟩;replace l:=Hd (l.later t);clear t;refine j _ _ (fun _=>I _ l) ?_;clear j K;simp only[AD,AA];refine Co 6 mU rfl rfl rfl (fun K j=>?_);go_simp;refine(HC _ l.be).mono ?_
   rintro e U ⟨J,c4,rfl,t⟩;replace l:=Hd (l.later t);clear t;refine j _ _ (fun _=>I _ l) ?_;clear j K;simp only[AD,AA];refine Co 7 mU rfl rfl rfl (fun K j=>?_);go_simp;have H4:=Hd (l.later (AE U (nO #[nE nM 4,nH ⟨#[]⟩,nI false,nI false,nC nK 0 0,nC nK 0 0,nC J 1 c4,nC nK 0 0,nC nK 0 0,nC nK 0 0] 46)));refine j _ _ (fun _=>I _ H4) ?_;clear j K;simp only[AD,AA];refine Co 8 mU rfl rfl rfl (fun K j=>?_);refine Dt Ph (.tmp 34) (.tmp 40) rfl (base:=U.heap.size) (n:=0) (m:=1) (N:=1) (v:=nC nK 0 0) (src:=nC (U,0) 1 1) (xs:=[]) (news:=[nE nM 4,nH ⟨#[]⟩,nI false,nI false,nC nK 0 0,nC nK 0 0,nC J 1 c4,nC nK 0 0,nC nK 0 0,nC nK 0 0]) rfl rfl ⟨rfl,.inl ⟨rfl,rfl⟩⟩ (Ba.Ap (c:=1) (Ah.new U 46 _) rfl mZ) rfl mW mR mV ?_
   intro A7 c7 w7 r1 r2 r3;obtain⟨g,rfl,hg,hr⟩:=E7.of r1 rfl;have C:=Hd (l.later ((AE U _).trans (r2.below mV)));have a1:w.heap.size+1<g:=AK l.n.lt hg;have HR:=Hd (And.intro hr a1);clear r1 r2 r3 hr a1 hg;refine j _ _ (fun _=>I _ C) ?_;clear j K;simp only[AD,AA];have x9:=C.n.cell 9;have f9:=C.n.frozen 9;have xl:=C.n.lt;simp at x9;refine Be 9 mU rfl rfl (fun K j=>?_);go_simp;refine j _ _ (fun _=>I _ C) ?_;clear j K;refine Be 10 mU rfl rfl (fun K j=>?_);go_simp
   refine j _ _ (fun h=>absurd rfl h) ?_;clear j K;refine CI mU ?_ _;have H6:=C.set 9 (nC (nJ ⟨g,0,nK⟩) 1 c7);simp at H6;have a3:=H6.lo;have o:=Hd (And.intro H6 (And.intro (HR.1.Ay ((Aj.refl (fun a4=>a4=w.heap.size+1) w7).set (p:=⟨w.heap.size+1,9,nK⟩) (.inr rfl) (nC (nJ ⟨g,0,nK⟩) 1 c7)) (fun e=>by have:=HR.2;omega)) (show w.heap.size<g by have:=HR.2;omega)));clear H6 x9 f9 xl a3 HR C H4 I;generalize w7.setCell (w.heap.size+1,9) (nC (nJ ⟨g,0,nK⟩) 1 c7)=W7 at *;go_wp2;go_roundw
   case rel=>exact .inr ⟨rfl,_,_,_,_,o⟩
   case measure=>simp[intOf]
  ·obtain⟨u0,u1,u2,u3,u4,u5,u6,u7,u8,u9,-,-,-,-,-,-,-,-,-,-,ul⟩:=EV o.1.n
   obtain⟨v0,v1,v2,v3,v4,v5,v6,v7,v8,v9,f0,f1,f2,f3,f4,f5,f6,f7,f8,f9,vl⟩:=EV o.1.x;go_wp2;obtain⟨hl,P⟩:=G5 (k:=1) (s:=⟨#[]⟩) (b:=false) (c:=false) (A1:=nK) (n1:=0) (c1:=0) (A2:=nK) (n2:=0) (c2:=0) (A3:=nK) (n3:=0) (c3:=0) (A4:=nK) (n4:=0) (c4:=0) (A5:=nK) (n5:=0) (c5:=0) (A6:=nJ ⟨g,0,nK⟩) (n6:=1) (c6:=cg) o.1.x;exact bodyPost_ret (Jl rfl rfl hl) rfl ⟨_,_,_,_,rfl,o.2.1.Ay P (fun e=>by have:=o.2.2;omega),Nat.le_of_lt o.2.2,o.1.be.trans (P.below o.1.be.size fun b t R=>by omega)⟩
def bZ{z:Nat}{r:Nd×nU}(h:Ed B w mb T vv)(hn:Gy w mb S)(hp:T[i]?=nJ p)(hx:p.1.kids=[x])(hq:T[x]?=nJ q)(R:q.1.kids=[z])(hr:T[z]?=nJ r)(hs:((r.1.sym:Int)==S ⟨#[112,105,112,101,115]⟩)=false)(hc:∀y,Below w w y->() 181 #[(mb,0),nE nM z] y (G6 y)) :
  () 143 #[(mb,0),i] w (G6 w):=by
 have HM:Hid (∀y,Below w w y->() 76 #[(mb,0),i] y fun e w'=>e=nP (nE nM 1)/\Below y y w'):=Hd fun y I=>by have h:=U5 (h.later I) hp;rw[hx]at h;exact h
 have a3:=Hd fun y (I:Below w w y)=>IE (h.later I) hp (q := -1) (j:=0) (.inr ⟨mT,by rw[hx];rfl⟩) (by rw[hx];rfl)
 have HK:=Hd fun y (I:Below w w y)=>IE (h.later I) hq (q := -1) (j:=0) (.inr ⟨mT,by rw[R];rfl⟩) (by rw[R];rfl)
 have a2:=Hd fun y (I:Below w w y)=>OH (h.later I) (hn.later I) hq (by rw[R];rfl) hr hs
 have HC:Hid (∀y,Below w w y->() 181 #[(mb,0),nE nM z] y (G6 y)):=Hd hc;clear h hn hp hx hq R hr hs hc;go_enter func143,ntmps143
 go_upto_region 3 with(first
  | (go_at_call 76;refine(HM _ (AE w _)).mono ?_;rintro e C ⟨rfl,o⟩;have H2:=Hd (Dh.next o #[nE nM 3,nH ⟨#[]⟩,nI false,nI false,nC nK 0 0,nC nK 0 0,nC nK 0 0,nC nK 0 0,nC nK 0 0,nC nK 0 0]);clear o)
  | (go_at_call 43;refine(a3 _ H2.be).mono ?_;rintro e w2 ⟨rfl,o⟩;replace H2:=Hd (H2.later o);clear o)
  | (go_at_call 111;refine(a2 _ H2.be).mono ?_;rintro e w3 ⟨A1,c1,rfl,ho,o⟩;have t:=Hd (H2.later o);obtain⟨g,rfl,gl,d0⟩:=N8 ho;clear ho o))
 go_loopw [19] (fun iv wr=>(iv=nE nM 0/\wr=w3)\/(iv=nE nM 1/\∃g U c4 c,Hid (Dh w wr (C.heap.size) #[nE nM 3,nH ⟨#[]⟩,nI false,nI false,nC nK 0 0,nC nK 0 0,nC nK 0 0,nC nK 0 0,nC nK 0 0,nC (nJ ⟨g,0,nK⟩) 1 c]/\E7 wr g #[nE nM 4,nH ⟨#[]⟩,nI false,nI false,nC nK 0 0,nC nK 0 0,nC U 1 c4,nC nK 0 0,nC nK 0 0,nC nK 0 0]/\w.heap.size<g))) (fun iv _=>1-(intOf iv).toNat)
 case atStart=>exact .inl ⟨rfl,rfl⟩
 case round=>
  rcases hrel with⟨rfl,rfl⟩|⟨rfl,g,U,c4,cg,j⟩
  ·go_upto_region 5 with fail
   have P:Hid (∀z,Dh w z (C.heap.size) #[nE nM 3,nH ⟨#[]⟩,nI false,nI false,nC nK 0 0,nC nK 0 0,nC nK 0 0,nC nK 0 0,nC nK 0 0,nC nK 0 0]->(fun z:nS=>nQ z (C,9)=nJ (nC nK 0 0)/\C.heap.size<z.heap.size) z):=Hd fun z R=>⟨R.n.cell 9,R.n.lt⟩
   replace t:=Hd (t.later (Below.refl _ _).drew);refine CO 10 (fun z:nS=>nQ z (C,9)=nJ (nC nK 0 0)/\C.heap.size<z.heap.size) mU ?_;have a0:=P _ t;refine FE [0,1,2,3,4] a0 ?_;clear a0;refine Co 5 mU rfl rfl rfl (fun K l=>?_);go_simp;refine(HK _ t.be).mono ?_;rintro e w5 ⟨rfl,o⟩;replace t:=Hd (t.later o);clear o;refine l _ _ (fun _=>P _ t) ?_;clear l K;simp only[AD,AA];refine Co 6 mU rfl rfl rfl (fun K l=>?_);go_simp;refine(HC _ t.be).mono ?_
   rintro e w6 ⟨U,c4,rfl,o⟩;replace t:=Hd (t.later o);clear o;refine l _ _ (fun _=>P _ t) ?_;clear l K;simp only[AD,AA];refine Co 7 mU rfl rfl rfl (fun K l=>?_);go_simp;have H4:=Hd (t.later (AE w6 (nO #[nE nM 4,nH ⟨#[]⟩,nI false,nI false,nC nK 0 0,nC nK 0 0,nC U 1 c4,nC nK 0 0,nC nK 0 0,nC nK 0 0] 46)));refine l _ _ (fun _=>P _ H4) ?_;clear l K;simp only[AD,AA];refine Co 8 mU rfl rfl rfl (fun K l=>?_);refine Dt Ph (.tmp 24) (.tmp 30) rfl (base:=w6.heap.size) (n:=0) (m:=1) (N:=1) (v:=nC nK 0 0) (src:=nC (w6,0) 1 1) (xs:=[]) (news:=[nE nM 4,nH ⟨#[]⟩,nI false,nI false,nC nK 0 0,nC nK 0 0,nC U 1 c4,nC nK 0 0,nC nK 0 0,nC nK 0 0]) rfl rfl ⟨rfl,.inl ⟨rfl,rfl⟩⟩ (Ba.Ap (c:=1) (Ah.new w6 46 _) rfl mZ) rfl mW mR mV ?_
   intro A7 c7 w7 r1 r2 r3;obtain⟨g,rfl,hg,hr⟩:=E7.of r1 rfl;have J:=Hd (t.later ((AE w6 _).trans (r2.below mV)));have a1:C.heap.size<g:=AK t.n.lt hg;have HR:=Hd (And.intro hr a1);clear r1 r2 r3 hr a1 hg;refine l _ _ (fun _=>P _ J) ?_;clear l K;simp only[AD,AA];have x9:=J.n.cell 9;have f9:=J.n.frozen 9;have xl:=J.n.lt;simp at x9;refine Be 9 mU rfl rfl (fun K l=>?_);go_simp;refine l _ _ (fun _=>P _ J) ?_;clear l K;refine Be 10 mU rfl rfl (fun K l=>?_);go_simp
   refine l _ _ (fun h=>absurd rfl h) ?_;clear l K;refine CI mU ?_ _;have H6:=J.set 9 (nC (nJ ⟨g,0,nK⟩) 1 c7);simp at H6;have a4:=H6.lo;have j:=Hd (And.intro H6 (And.intro (HR.1.Ay ((Aj.refl (fun a5=>a5=C.heap.size) w7).set (p:=⟨C.heap.size,9,nK⟩) (.inr rfl) (nC (nJ ⟨g,0,nK⟩) 1 c7)) (fun e=>by have:=HR.2;omega)) (show w.heap.size<g by have:=HR.2;omega)));clear H6 x9 f9 xl a4 HR J H4 P;generalize w7.setCell (C,9) (nC (nJ ⟨g,0,nK⟩) 1 c7)=W7 at *;go_wp2;go_roundw
   case rel=>exact .inr ⟨rfl,_,_,_,_,j⟩
   case measure=>simp[intOf]
  ·obtain⟨u0,u1,u2,u3,u4,u5,u6,u7,u8,u9,-,-,-,-,-,-,-,-,-,-,ul⟩:=EV j.1.n
   obtain⟨v0,v1,v2,v3,v4,v5,v6,v7,v8,v9,f0,f1,f2,f3,f4,f5,f6,f7,f8,f9,vl⟩:=EV j.1.x;have r0:=j.2.1.2 0 _ rfl;have r1:=j.2.1.2 1 _ rfl;have r2:=j.2.1.2 2 _ rfl;have r3:=j.2.1.2 3 _ rfl;have r4:=j.2.1.2 4 _ rfl;have r5:=j.2.1.2 5 _ rfl;have r6:=j.2.1.2 6 _ rfl;have r7:=j.2.1.2 7 _ rfl;have r8:=j.2.1.2 8 _ rfl;have r9:=j.2.1.2 9 _ rfl;have rl:=j.2.1.1;simp only[Nat.zero_add,Nat.add_zero]at r0 r1 r2 r3 r4 r5 r6 r7 r8 r9;go_wp2;obtain⟨hl,hc⟩:=G5 (k:=4) (s:=⟨#[]⟩) (b:=false) (c:=false) (A1:=nK) (n1:=0) (c1:=0) (A2:=nK) (n2:=0) (c2:=0) (A3:=U) (n3:=1) (c3:=c4) (A4:=nK) (n4:=0) (c4:=0) (A5:=nK) (n5:=0) (c5:=0) (A6:=nK) (n6:=0) (c6:=0) j.1.x
   exact bodyPost_ret (Jl rfl rfl hl) rfl ⟨_,_,rfl,j.1.be.trans (hc.below j.1.be.size fun b o hx=>by omega)⟩
def MZ(w:nS)(e:Ending)(w':nS):Prop:=∃g i c4 c j l,e=nP (.agg #[nE nM 1,nH ⟨#[]⟩,nI false,nI false,nC j 1 l,nC nK 0 0,nC nK 0 0,nC nK 0 0,nC nK 0 0,nC (nJ ⟨g,0,nK⟩) 1 c])/\E7 w' g #[nE nM 4,nH ⟨#[]⟩,nI false,nI false,nC nK 0 0,nC nK 0 0,nC i 1 c4,nC nK 0 0,nC nK 0 0,nC nK 0 0]/\w.heap.size<=g/\Below w w w'
def XU(h:Ed B w mb T vv)(P:Gy w mb S)(R:T[i]?=nJ p)(I:p.1.kids[0]?=nJ x)(U:T[x]?=nJ q)(hs:((q.1.sym:Int)==S ⟨#[115,105,109,112,108,101]⟩)=true)(t:∀y,Below w w y->() 206 #[(mb,0),x] y (G6 y)) :
  () 181 #[(mb,0),i] w (G6 w):=by
 have HK:=Hd fun y (C:Below w w y)=>IE (h.later C) R (q:=0) (.inl rfl) I
 have J:=Hd fun y (C:Below w w y)=>Mf (h.later C) (P.later C) U ⟨#[115,105,109,112,108,101]⟩
 rw[hs]at J;have HC:=Hd t;have j:=Hd (AE w (nO #[nE nM 0,nH ⟨#[]⟩,nI false,nI false,nC nK 0 0,nC nK 0 0,nC nK 0 0,nC nK 0 0,nC nK 0 0,nC nK 0 0] 46));have o:=Hd (Ah.new w 46 #[nE nM 0,nH ⟨#[]⟩,nI false,nI false,nC nK 0 0,nC nK 0 0,nC nK 0 0,nC nK 0 0,nC nK 0 0,nC nK 0 0]);clear h P R I U hs t;go_enter func181,ntmps181
 go_wp2_with (first
  | (go_at_call 43;refine(HK _ j).mono ?_;rintro e w1 ⟨rfl,l⟩;replace o:=Hd (o.below l o.lt);replace j:=Hd (j.trans (l.mono j.size));clear l)
  | (go_at_call 113;refine(J _ j).mono ?_;rintro e w2 ⟨rfl,l⟩;replace o:=Hd (o.below l o.lt);replace j:=Hd (j.trans (l.mono j.size));clear l)
  | (
   go_at_call 206;refine(HC _ j).mono ?_;rintro e w3 ⟨A4,c4,rfl,l⟩;replace o:=Hd (o.below l o.lt);replace j:=Hd (j.trans (l.mono j.size));clear l
   obtain⟨v0,v1,v2,v3,v4,v5,v6,v7,v8,v9,f0,f1,f2,f3,f4,f5,f6,f7,f8,f9,vl⟩:=EV o))
 obtain⟨hl,t⟩:=G5 (k:=4) (s:=⟨#[]⟩) (b:=false) (c:=false) (A1:=nK) (n1:=0) (c1:=0) (A2:=nK) (n2:=0) (c2:=0) (A3:=A4) (n3:=1) (c3:=c4) (A4:=nK) (n4:=0) (c4:=0) (A5:=nK) (n5:=0) (c5:=0) (A6:=nK) (n6:=0) (c6:=0) o;exact bodyPost_ret (Jl rfl rfl hl) rfl ⟨_,_,rfl,j.trans (t.below j.size fun b l I=>by omega)⟩
def Y9(h:Ed B w mb T vv)(hp:T[i]?=nJ p)(hx:p.1.kids=[x])(R:∀y,Below w w y->() 75 #[(mb,0),x,nH ⟨#[108,105,115,116]⟩] y (S9 y)) :
  () 42 #[(mb,0),i] w (MZ w):=by
 have HM:Hid (∀y,Below w w y->() 76 #[(mb,0),i] y fun e w'=>e=nP (nE nM 1)/\Below y y w'):=Hd fun y hy=>by have h:=U5 (h.later hy) hp;rw[hx]at h;exact h
 have HK:=Hd fun y (hy:Below w w y)=>IE (h.later hy) hp (q:=0) (j:=0) (.inl rfl) (by rw[hx];rfl)
 have HC:=Hd R;have j:=Hd (Below.refl (w.alloc (nO #[nE nM 0,nH ⟨#[]⟩,nI false,nI false,nC nK 0 0,nC nK 0 0,nC nK 0 0,nC nK 0 0,nC nK 0 0,nC nK 0 0] 46)).heap.size (w.alloc (nO #[nE nM 0,nH ⟨#[]⟩,nI false,nI false,nC nK 0 0,nC nK 0 0,nC nK 0 0,nC nK 0 0,nC nK 0 0,nC nK 0 0] 46)));have HW:=Hd (AE w (nO #[nE nM 0,nH ⟨#[]⟩,nI false,nI false,nC nK 0 0,nC nK 0 0,nC nK 0 0,nC nK 0 0,nC nK 0 0,nC nK 0 0] 46));clear h hp hx R
 go_enter func42,ntmps42
 go_upto_region 6 with(first
  | (go_at_call 43;refine(HK _ (HW.trans (j.mono HW.size))).mono ?_;rintro e w1 ⟨rfl,l⟩;replace j:=Hd (j.trans (l.mono j.size));clear l)
  | (
   go_at_call 75;refine(HC _ (HW.trans (j.mono HW.size))).mono ?_;rintro e w2 ⟨g,A4,c4,c,rfl,hr,hg,l⟩;have h3:=j.size;simp at h3;replace j:=Hd (j.trans (l.mono j.size))
   have o:=Hd (Dh.next j #[nE nM 1,nH ⟨#[]⟩,nI false,nI false,nC nK 0 0,nC nK 0 0,nC nK 0 0,nC nK 0 0,nC nK 0 0,nC (g,0) 1 c]);have U:=Hd (And.intro (hr.later (AE w2 (nO #[nE nM 1,nH ⟨#[]⟩,nI false,nI false,nC nK 0 0,nC nK 0 0,nC nK 0 0,nC nK 0 0,nC nK 0 0,nC (g,0) 1 c] 46))) (And.intro hr.1 (show w.heap.size<g by omega)));clear hr l hg h3)
  | (
   go_at_call 76;refine(HM _ o.be).mono ?_;rintro e I ⟨rfl,l⟩
   have a1:=Hd (U.1.later l);replace o:=Hd (o.later l);clear l;obtain⟨u0,u1,u2,u3,u4,u5,u6,u7,u8,u9,-,-,-,-,-,-,-,-,-,-,ul⟩:=EV o.n)
  | (
   at_builtin;refine Du LH (.tmp 22) (.tmp 24) rfl rfl (base:=I.heap.size) (n:=0) (m:=1) (N:=1) (v:=nC nK 0 0) (src:=nC (I,0) 1 1) (xs:=[]) (news:=[nE nM 1]) rfl rfl ⟨rfl,.inl ⟨rfl,rfl⟩⟩ (Ba.Ap (c:=1) (Ah.new I 3 _) rfl mZ) rfl mW mR mV ?_
   intro J P w7 r1 r2 r3;have a0:Below I I w7:=(AE I _).trans (r2.below mV);have t:=Hd (o.later a0);have a2:=Hd (a1.later a0);have C:=Hd (t.set 4 (nC J 1 P));have a3:=Hd (a2.Ay ((Aj.refl (fun a4=>a4=w2.heap.size) w7).set (p:=⟨w2.heap.size,4,nK⟩) (.inr rfl) (nC J 1 P)) (fun e=>by have:=U.2.1;omega));clear r1 r2 r3 a0 u0 u1 u2 u3 u4 u5 u6 u7 u8 u9 ul;have f4:=t.n.frozen 4;have x4:=t.n.cell 4;have xl:=t.n.lt;have h6:=t.set 4 (nC J 1 P);simp at x4 h6;replace C:=Hd h6;clear h6))
 clear x4 f4 xl a1 o a2 t;generalize w7.setCell (w2,4) (nC J 1 P)=W8 at *;obtain⟨u0,u1,u2,u3,u4,u5,u6,u7,u8,u9,-,-,-,-,-,-,-,-,-,-,ul⟩:=EV C.n;obtain⟨v0,v1,v2,v3,v4,v5,v6,v7,v8,v9,f0,f1,f2,f3,f4,f5,f6,f7,f8,f9,vl⟩:=EV C.x;go_wp2;obtain⟨hl,R⟩:=G5 (k:=1) (s:=⟨#[]⟩) (b:=false) (c:=false) (A1:=J) (n1:=1) (c1:=P) (A2:=nK) (n2:=0) (c2:=0) (A3:=nK) (n3:=0) (c3:=0) (A4:=nK) (n4:=0) (c4:=0) (A5:=nK) (n5:=0) (c5:=0) (A6:=nJ ⟨g,0,nK⟩) (n6:=1) (c6:=c) C.x;exact bodyPost_ret (Jl rfl rfl hl) rfl ⟨_,_,_,_,_,_,rfl,a3.Ay R (fun e=>by have:=U.2.2;omega),Nat.le_of_lt U.2.2,C.be.trans (R.below C.be.size fun b l hx=>by omega)⟩
