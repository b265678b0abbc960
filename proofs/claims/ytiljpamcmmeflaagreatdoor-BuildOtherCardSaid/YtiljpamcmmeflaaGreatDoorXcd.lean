/- . -/
import Derived.Test.YtiljpamcmmeflaaGreatDoorXcb
import Derived.Test.YtiljpamcmmeflaaGreatDoorXbj
set_option linter.all false
set_option maxRecDepth 100000
set_option maxHeartbeats 16000000
namespace Go.Proofs.YtiljpamcmmeflaaGreatDoor
open Go.RowKit
open Value renaming slice→nC,int→nE,string→nH,bool→nI
open Option renaming some→nJ,none→nK
open IntKind renaming i64→nM
open Obj renaming cells→nO
open Ending renaming returned→nP
open World renaming cell?→nQ
open Go renaming World→nS,Value→nU
variable{w:nS}{i rb:Nat}{T:List (Nd×nU)}{vv:nU}{tr:List Nd}
def Eo.mono{A A':Nat->Prop}(h:Eo A w rb T)(i:∀b,A b->A' b):Eo A' w rb T:=⟨⟨i _ h.r.1,h.r.2⟩,by obtain⟨C,c,j,l,o⟩:=h.row;exact⟨C,c,j,i _ l,o⟩,fun p t=>(h.kids p t).mono i⟩
def Jm(tr:List Nd)(l:List Nat):List Nd:=l.filterMap fun k=>(tr[k]?).bind fun x=>if x.Ff then nJ x else nK
theorem U9(g:Nd->Int)(tr:List Nd)(l:List Nat):Ez g tr l=(Jm tr l).map fun x=>nE nM (g x):=by
 unfold Ez Jm;rw[List.map_filterMap];congr;funext k;cases tr[k]? with
 | none=>rfl
 | some x=>cases h:x.Ff<;>simp[h]
def KV{fn:Func}{p u:Tmp}{ty:TypeId}{P:Program}{tmps:Array nU}{a:Addr}{v:nU}(h:fn.results=#[.cell p ty,.tmp u])(i:tmps.getD p undef=.pointer (nJ a))(j:(loadVar ty a).run P w=.ok v w) :
  (results fn tmps).run P w=.ok (.tuple #[v,tmps.getD u undef]) w:=by
 rw[Array.getD_eq_getD_getElem?]at i;simp only[results,h];simp[Result.andThen,i,asAddr,j]
def Lo(w:nS)(e:Ending)(w':nS):Prop:=e=nP (.tuple #[.agg #[nE nM 0,nH ⟨#[]⟩,nI false,nI false,nC nK 0 0,nC nK 0 0,nC nK 0 0,nC nK 0 0,nC nK 0 0,nC nK 0 0],nI false])/\Below w w w'
def OY(w:nS)(e:Ending)(w':nS):Prop:=∃v,MZ w (nP v) w'/\e=nP (.tuple #[v,nI true])
def KH(tr:List Nd)(xs:List Nat)(fb:Nat->Bool)(s:Int):Prop:=(∀k∈xs,Ig tr k)/\(∀q,q<(Jm tr xs).length->fb q=true)/\s=sN ⟨#[117,110,105,116]⟩
def U0{C:Nat}{i:Int}(I:G1 w C)(J:∀v y,GN w v pz->Below w w y->() 38 #[(rb,0),v,i] y fun e w'=>e=nP (nI false)/\Below y y w'):() 15 #[(C,0),(rb,0),i,vv] w (Lo w):=by
 obtain⟨AT,nT,cT,AN,nN,cN,AR,nR,cR,gs,mp,o,t,-⟩:=I;have P:=Hd fun y (hy:Below w w y)=>J _ y t hy
 have l:=Hd (Ah.new w 46 #[nE nM 0,nH ⟨#[]⟩,nI false,nI false,nC nK 0 0,nC nK 0 0,nC nK 0 0,nC nK 0 0,nC nK 0 0,nC nK 0 0]);have j:=Hd (AE w (nO #[nE nM 0,nH ⟨#[]⟩,nI false,nI false,nC nK 0 0,nC nK 0 0,nC nK 0 0,nC nK 0 0,nC nK 0 0,nC nK 0 0] 46));have a:=o.below j o.lt;have R:=a.cell 0;have c1:=a.cell 1;have c2:=a.cell 2;have c3:=a.cell 3;have cl:=a.lt;simp at R c1 c2 c3;clear J o t a;go_enter Tryz.func15,Tryz.ntmps15
 go_wp2_with (
  go_at_call 38;refine(P _ j).mono ?_;rintro e w2 ⟨rfl,p⟩;replace l:=Hd (l.below p l.lt);replace j:=Hd (j.trans (p.mono j.size));clear p
  obtain⟨v0,v1,v2,v3,v4,v5,v6,v7,v8,v9,f0,f1,f2,f3,f4,f5,f6,f7,f8,f9,vl⟩:=EV l)
 obtain⟨U,T⟩:=G5 (k:=0) (s:=⟨#[]⟩) (b:=false) (c:=false) (A1:=nK) (n1:=0) (c1:=0) (A2:=nK) (n2:=0) (c2:=0) (A3:=nK) (n3:=0) (c3:=0) (A4:=nK) (n4:=0) (c4:=0) (A5:=nK) (n5:=0) (c5:=0) (A6:=nK) (n6:=0) (c6:=0) l;exact bodyPost_ret (KV rfl rfl U) rfl ⟨rfl,j.trans (T.below j.size fun b I hx=>by omega)⟩
def QU{t f:Nat}{xs:List Nat}{p:Nd×nU}(C:G1 w t)(ht:Eo (fun b=>b<w.heap.size) w rb T)(af:T.map (·.1)=tr)(hv:En tr f [i]=nJ xs)(hf:f<=100000)(b9:∀p∈T,p.1.kids.length<=1000/\IN p.1.kids p.2)(b6:∀p∈T,∀j∈p.1.kids,j<T.length)(hp:T[i]?=nJ p){vb nv cv:Nat}{fb:Nat->Bool}
  (hF:(∀k∈xs,Ig tr k)->∀(q:Nat) (x:Nd),(Jm tr xs)[q]?=nJ x->∃j:Nat,x.leaf=j/\j<nv/\∃K op A n c N H,GB w (nC (vb,0) nv cv) j K op A n c N H/\∀y,Below w w y->() 9 #[(t,0),x.sym,.agg #[nE nM K,nE nM op,nC A n c,nH N]] y fun e w'=>e=nP (nI (fb q))/\Below y y w')
  (hC:KH tr xs fb p.1.sym->∃x:Nat,p.1.kids[0]?=nJ x/\∀y mb,Below w w y->Ed w.heap.size y mb T (nC (vb,0) nv cv)->Gy y mb sN->() 42 #[.pointer (nJ ⟨mb,0,nK⟩),nE nM x] y (MZ y)) :
  () 15 #[(t,0),(rb,0),i,nC (vb,0) nv cv] w fun e w'=>(KH tr xs fb p.1.sym/\OY w e w')\/(¬KH tr xs fb p.1.sym/\Lo w e w'):=by
 have hi:=(sG.1 hp).1;have hk:∀p∈T,p.1.kids.length<=100000:=fun p h=>by have:=(b9 p h).1;omega
 obtain⟨a2,hU⟩:∃a2,KH tr xs fb p.1.sym=a2:=⟨_,rfl⟩
 have a6:=hv;rw[<-af]at a6;have aw:=fun y (l:Below w w y)=>ht.Bu (w':=y) l.size fun b C=>l.block b C
 have aa:=fun y (l:Below w w y)=>(aw y l).mono fun b C=>AK C l.size
 have bz:=Hd C;by_cases ae:∀k∈xs,Ig tr k
 case neg=>
  rw[hU];refine(U0 bz fun v y hg l=>((RF (hg.later l) (aa y l) a6 hf hk hi b6).mono fun e w' ⟨b,h1,h2,h3⟩=>⟨?_,h2⟩)).mono fun e w' h=>.inr ⟨by rw[<-hU];exact fun h=>ae h.1,h⟩
  rw[h1];rw[af]at h3;cases b with|true=>exact absurd (h3.1 rfl) ae|false=>rfl
 obtain⟨AT,nT,cT,AN,nN,cN,AR,nR,cR,gs,mp,b1,b2,b3⟩:=C;have bc:Hid (∀y,Below w w y->() 38 #[(rb,0),.agg #[nC AT nT cT,nC AN nN cN,nC AR nR cR,gs],i] y fun e w'=>∃b,e=nP (nI b)/\Below y y w'/\(b=true<->∀k∈xs,Ig tr k)):=Hd fun y l=>by have h:=RF (b2.later l) (aa y l) a6 hf hk hi b6;rwa [af]at h
 have az:=fun y (l:Below w w y)=>bA (aa y l) a6 hf hk hi
 have ay:=fun y (l:Below w w y)=>Z2 (aa y l) a6 hf hk hi
 rw[af]at az ay;have br:(Jm tr xs).length<=100000:=AY (List.length_filterMap_le _ _) (by have:=Ng hv;omega);have ab:=Hd az;have a8:=Hd ay;have bh:Hid (∀y,Below w w y->Ed w.heap.size (y.alloc (nO #[(t,0),(rb,0),nC (vb,0) nv cv] 93)) y.heap.size T (nC (vb,0) nv cv)/\Gy (y.alloc (nO #[(t,0),(rb,0),nC (vb,0) nv cv] 93)) y.heap.size sN):=Hd fun y l=>by have R:=l.alloc l.size (nO #[(t,0),(rb,0),nC (vb,0) nv cv] 93);exact⟨⟨R.size,⟨t,rb,Ah.new _ _ _,aw _ R⟩,b9⟩,t,mp,_,_,_,_,_,_,Ah.new _ _ _,b1.below R b1.lt,fun z cj=>b3 z (R.trans (cj.mono R.size))⟩
 have bb:Hid (∀y,Below w w y->nQ y (t,0)=nJ (nC AT nT cT)/\nQ y (t,1)=nJ (nC AN nN cN)/\nQ y (t,2)=nJ (nC AR nR cR)/\nQ y (t,3)=nJ (nE nM gs)/\nQ y (t,4)=nJ (.map (nJ mp))/\t<y.heap.size):=Hd fun y l=>by have a:=b1.below l b1.lt;exact⟨a.cell 0,a.cell 1,a.cell 2,a.cell 3,a.cell 4,a.lt⟩
 have cb:=Hd b3;have J:=Hd (Ah.new w 46 #[nE nM 0,nH ⟨#[]⟩,nI false,nI false,nC nK 0 0,nC nK 0 0,nC nK 0 0,nC nK 0 0,nC nK 0 0,nC nK 0 0]);have o:=Hd (AE w (nO #[nE nM 0,nH ⟨#[]⟩,nI false,nI false,nC nK 0 0,nC nK 0 0,nC nK 0 0,nC nK 0 0,nC nK 0 0,nC nK 0 0] 46));obtain⟨c0,c1,c2,c3,c4,cl⟩:=bb _ o;have HF:=Hd hF;have HC:=Hd hC;have HP:=Hd hp;have HI:=Hd hi;clear hf b9 b6 hp hF hC ht hv a6 hk aw aa az ay b1 b2 b3 hi af;have bp:=U9 Nd.sym tr xs
 have bo:=U9 Nd.leaf tr xs;have hu:=@Vg;have c6:Hid (∀y,Below w w y->() 38 #[(rb,0),.agg #[nC AT nT cT,nC AN nN cN,nC AR nR cR,gs],i] y fun e w'=>e=nP (nI true)/\Below y y w'):=Hd fun y l=>(bc y l).mono fun e w' ⟨b,h1,h2,h3⟩=>⟨by rw[h1,h3.2 ae],h2⟩
 have bd:=Hd ae;have ax:=Hd hU;rw[hU];rw[bp]at ab;rw[bo]at a8;obtain⟨ls,b7⟩:∃ls,Jm tr xs=ls:=⟨_,rfl⟩
 rw[b7]at ab a8 HF br;have be:=Hd b7;simp only[lM]at ab a8;obtain⟨nl,b8⟩:∃nl,ls.length=nl:=⟨_,rfl⟩
 rw[b8]at ab a8 br;have au:=Hd b8;clear hU ae bp bo b7 b8 bc;go_enter Tryz.func15,Tryz.ntmps15
 go_wp2_with (first
  | (go_at_call 38;refine(c6 _ o).mono ?_;rintro e w2 ⟨rfl,b0⟩;replace J:=Hd ((J.below b0 J.lt).alloc (nO #[(t,0),(rb,0),nC (vb,0) nv cv] 93));replace o:=Hd (o.trans (b0.mono o.size));have HM:=Hd (bh w2 o);replace o:=Hd (o.alloc o.size (nO #[(t,0),(rb,0),nC (vb,0) nv cv] 93));clear b0 bh)
  | (go_at_call 39;refine(ab _ o).mono ?_;rintro e w3 ⟨o3,rfl,A3,k3,rfl,bt,ad⟩;have aj:=Hd bt;replace J:=Hd (J.below ad J.lt);have bf:=Hd (And.intro (HM.1.later ad) (HM.2.later ad));replace o:=Hd (o.trans (ad.mono o.size));clear bt ad)
  | (go_at_call 40;refine(a8 _ o).mono ?_;rintro e P ⟨o4,rfl,A4,k4,rfl,bu,a3⟩;have bi:=Hd bu;replace J:=Hd (J.below a3 J.lt);replace aj:=Hd (AV aj a3);have ar:=Hd (And.intro (bf.1.later a3) (bf.2.later a3));replace o:=Hd (o.trans (a3.mono o.size));clear bu a3))
 have bj:=HF bd;replace HF:=Hd bj;clear bj;go_loopw [41] (fun ii wr=>∃q:Nat,q<=nl/\ii=nE nM q/\Hid (Below P P wr/\∀k,k<q->fb k=true)) (fun ii _=>nl-(intOf ii).toNat)
 case atStart=>exact⟨0,A0 _,rfl,Hd ⟨Below.refl _ _,fun k hk=>by omega⟩⟩
 case round=>
  obtain⟨q,hq,rfl,HW⟩:=hrel;by_cases bq:q<nl
  ·obtain⟨x,hx⟩:∃x,ls[q]?=nJ x:=⟨_,eG (by rw[au.out];exact bq)⟩
   obtain⟨j,bw,hj,K,op,A,n,c,N,H,⟨cw,cu,cn,e,-,v1,v2,v3,v4,v5,-⟩,bn⟩:=HF q x hx;cases e
   obtain⟨lb,rfl,ll,l0⟩:∃g,A4=nJ ⟨g,0,nK⟩/\g<P.heap.size/\nQ P ⟨g,q,nK⟩=nJ (nE nM j):=by
    rcases Bg bi.out with⟨-,e⟩|⟨g,c',e,-,hg,-⟩
    ·omega
    ·cases e
     refine⟨g,rfl,hg,?_⟩;rw[Bb bi.out q mR,pG,hx,Option.map_some,bw]
   obtain⟨sb,rfl,sl,s0⟩:∃g,A3=nJ ⟨g,0,nK⟩/\g<P.heap.size/\nQ P ⟨g,q,nK⟩=nJ (nE nM x.sym):=by
    rcases Bg aj.out with⟨-,e⟩|⟨g,c',e,-,hg,-⟩
    ·omega
    ·cases e
     refine⟨g,rfl,hg,?_⟩;rw[Bb aj.out q mR,pG,hx,Option.map_some]
   have al:Hid (∀y,Below P P y->(fun y:nS=>nQ y (sb,q)=nJ (nE nM x.sym)/\sb<y.heap.size/\nQ y (vb,j*5)=nJ (nE nM K)/\nQ y (vb,j*5+1)=nJ (nE nM op)/\nQ y (vb,j*5+2)=nJ (nC A n c)/\nQ y (vb,j*5+3)=nJ (nH N)/\vb<y.heap.size) y):=Hd fun y l=>by have R:=o.trans (l.mono o.size);exact⟨(l.cell (p:=⟨sb,q,nK⟩) sl).trans s0,AK sl l.size,(R.cell (p:=⟨vb,_,nK⟩) v1).trans v2,(R.cell (p:=⟨vb,_,nK⟩) v1).trans v3,(R.cell (p:=⟨vb,_,nK⟩) v1).trans v4,(R.cell (p:=⟨vb,_,nK⟩) v1).trans v5,AK v1 R.size⟩
   have a0:Hid (Below P P wr.drew):=Hd HW.1.drew;have ag:=Hd (bn wr.drew (o.trans (a0.mono o.size)));have d0:=(HW.1.cell (p:=⟨lb,q,nK⟩) ll).trans l0;have dl:=AK ll HW.1.size;have ch:(q:Int)<(nl:Int):=by omega
   have cs:(j:Int)<(nv:Int):=by omega
   have cp:decide ((j:Int)<0)=false:=decide_eq_false mR;have cd:¬((nv:Int)<=(j:Int)):=by omega
   have cq:decide ((nv:Int)<=(j:Int))=false:=decide_eq_false cd;have cr:¬((j:Int)<0):=by omega
   clear hx bw bn v1 v2 v3 v4 v5 ll l0 sl s0 HF;cases a5:fb q with
   | true=>
    rw[a5]at ag;have c9:=Hd a5;clear a5;go_upto_region 8 with fail
    go_region_held3 (fun y:nS=>nQ y (sb,q)=nJ (nE nM x.sym)/\sb<y.heap.size/\nQ y (vb,j*5)=nJ (nE nM K)/\nQ y (vb,j*5+1)=nJ (nE nM op)/\nQ y (vb,j*5+2)=nJ (nC A n c)/\nQ y (vb,j*5+3)=nJ (nH N)/\vb<y.heap.size)
     (first|exact al _ a0|exact al _ I) (first|(go_at_call 9;refine ag.mono ?_;rintro e w5 ⟨rfl,a4⟩;have I:=Hd (a0.trans (a4.mono a0.size));clear a4))
    go_wp2_with fail
    go_roundw
    case rel=>exact⟨q+1,mR,mY,Hd ⟨I,fun k hk=>by
     by_cases e:k=q
     ·rw[e];exact c9
     ·exact HW.2 k mR⟩⟩
    case measure=>simp[intOf];omega
   | false=>
    rw[a5]at ag;have av:Hid (¬a2):=Hd (by rw[<-ax.out];exact fun h=>by have:=h.2.1 q (by rw[be.out,au.out];exact bq);rw[a5]at this;cases this);clear a5;go_upto_region 8 with fail
    go_region_held3 (fun y:nS=>nQ y (sb,q)=nJ (nE nM x.sym)/\sb<y.heap.size/\nQ y (vb,j*5)=nJ (nE nM K)/\nQ y (vb,j*5+1)=nJ (nE nM op)/\nQ y (vb,j*5+2)=nJ (nC A n c)/\nQ y (vb,j*5+3)=nJ (nH N)/\vb<y.heap.size)
     (first|exact al _ a0|exact al _ I) (first|(go_at_call 9;refine ag.mono ?_;rintro e w5 ⟨rfl,a4⟩;have I:=Hd (a0.trans (a4.mono a0.size));have U:=Hd (J.below (a0.trans (a4.mono a0.size)) J.lt);clear a4))
    replace I:=Hd (o.trans (I.mono o.size));obtain⟨v0,v1,v2,v3,v4,v5,v6,v7,v8,v9,f0,f1,f2,f3,f4,f5,f6,f7,f8,f9,vl⟩:=EV U;go_wp2_with fail
    obtain⟨hl,hc⟩:=G5 (k:=0) (s:=⟨#[]⟩) (b:=false) (c:=false) (A1:=nK) (n1:=0) (c1:=0) (A2:=nK) (n2:=0) (c2:=0) (A3:=nK) (n3:=0) (c3:=0) (A4:=nK) (n4:=0) (c4:=0) (A5:=nK) (n5:=0) (c5:=0) (A6:=nK) (n6:=0) (c6:=0) U;exact bodyPost_ret (KV rfl rfl hl) rfl (.inr ⟨av,rfl,I.trans (hc.below I.size fun b C hx=>by omega)⟩)
  ·obtain rfl:q=nl:=by omega
   have ch:¬((q:Int)<(q:Int)):=by omega
   go_upto_region 11 with fail
   have a1:Hid (Below P P wr.drew):=Hd HW.1.drew;replace a1:=Hd (o.trans (a1.mono o.size));obtain⟨mb,cg⟩:∃mb,w2.heap.size=mb:=⟨_,rfl⟩
   rw[cg]at ar ⊢;have a9:=Hd (And.intro (ar.1.later HW.1.drew) (ar.2.later HW.1.drew));have ao:=Hd (J.below HW.1.drew J.lt);have HA:=Hd (KJ a9.1 HP);have cf:=TF p.1.sym p.1.leaf p.1.AX;have HS:Hid (∀y,Below w w y->∀u,sN ⟨#[117,110,105,116]⟩=u->(fun y:nS=>(nQ y (t,4)=nJ (.map (nJ mp))/\t<y.heap.size)/\(Instr.lookup 65 (.map (nJ mp)) (nH ⟨#[117,110,105,116]⟩) false).run Tryz.prog y=.ok (nE nM u) y) y):=Hd fun y l u hu=>by obtain⟨-,-,-,-,h4,h5⟩:=bb y l;exact⟨⟨h4,h5⟩,by rw[<-hu];exact cb y l _ mT⟩
   have an:Hid (a2<->p.1.sym=sN ⟨#[117,110,105,116]⟩):=Hd (by rw[<-ax.out];exact⟨fun h=>h.2.2,fun h=>⟨bd,fun k hk=>HW.2 k (by rw[be.out,au.out]at hk;exact hk),h⟩⟩);obtain⟨u,aq⟩:∃u,sN ⟨#[117,110,105,116]⟩=u:=⟨_,rfl⟩
   have ak:Hid (∀y,Below w w y->(fun y:nS=>(nQ y (t,4)=nJ (.map (nJ mp))/\t<y.heap.size)/\(Instr.lookup 65 (.map (nJ mp)) (nH ⟨#[117,110,105,116]⟩) false).run Tryz.prog y=.ok (nE nM u) y) y):=Hd fun y l=>HS y l u aq
   rw[aq]at an;have cm:=Hd aq;unfold Nn at HA;clear aq HS hu c0 c1 c2 c3 c4 cl;generalize p.1.kids.map AS=ct,p.1.kids.length=nk at *;generalize p.1.leaf=lf,p.1.AX=ru at *;obtain⟨sy,ba⟩:∃sy,p.1.sym=sy:=⟨_,rfl⟩
   rw[ba]at HA an cf;have ck:=Hd ba;clear ba;cases bv:(sy != u) with
   | true=>
    have av:Hid (¬a2):=Hd (by rw[an.out];simpa using bv);clear HC
    go_region_held3 (fun y:nS=>(nQ y (t,4)=nJ (.map (nJ mp))/\t<y.heap.size)/\(Instr.lookup 65 (.map (nJ mp)) (nH ⟨#[117,110,105,116]⟩) false).run Tryz.prog y=.ok (nE nM u) y)
     (first|exact ak _ a1|exact ak _ I) (first|(go_at_call 41;refine HA.mono ?_;rintro e w5 ⟨A5,c5,rfl,-,C⟩;have U:=Hd (ao.below C ao.lt);have ai:=Hd (And.intro (a9.1.later C) (a9.2.later C));have I:=Hd (a1.trans (C.mono a1.size));clear C))
    all_goals obtain⟨v0,v1,v2,v3,v4,v5,v6,v7,v8,v9,f0,f1,f2,f3,f4,f5,f6,f7,f8,f9,vl⟩:=EV U
    all_goals go_wp2_with fail
    all_goals obtain⟨hl,hc⟩:=G5 (k:=0) (s:=⟨#[]⟩) (b:=false) (c:=false) (A1:=nK) (n1:=0) (c1:=0) (A2:=nK) (n2:=0) (c2:=0) (A3:=nK) (n3:=0) (c3:=0) (A4:=nK) (n4:=0) (c4:=0) (A5:=nK) (n5:=0) (c5:=0) (A6:=nK) (n6:=0) (c6:=0) U
    all_goals exact bodyPost_ret (KV rfl rfl hl) rfl (.inr ⟨av,rfl,I.trans (hc.below I.size fun b C hx=>by omega)⟩)
   | false=>
    have bk:Hid a2:=Hd (by rw[an.out];simpa using bv)
    go_region_held3 (fun y:nS=>(nQ y (t,4)=nJ (.map (nJ mp))/\t<y.heap.size)/\(Instr.lookup 65 (.map (nJ mp)) (nH ⟨#[117,110,105,116]⟩) false).run Tryz.prog y=.ok (nE nM u) y)
     (first|exact ak _ a1|exact ak _ I) (first|(go_at_call 41;refine HA.mono ?_;rintro e w5 ⟨A5,c5,rfl,-,C⟩;have U:=Hd (ao.below C ao.lt);have ai:=Hd (And.intro (a9.1.later C) (a9.2.later C));have I:=Hd (a1.trans (C.mono a1.size));clear C))
    all_goals obtain⟨x,hx,bm⟩:=HC (ax.symm▸bk.out)
    all_goals have ca:=Hd (IE ai.1 HP (q:=0) (j:=0) (.inl rfl) hx)
    all_goals have c8:=Hd fun y (l:Below w5 w5 y)=>bm y mb (I.trans (l.mono I.size)) (ai.1.later l) (ai.2.later l)
    all_goals clear hx bm HC
    all_goals go_wp2_with (first
     | (go_at_call 43;refine ca.mono ?_;rintro e w6 ⟨rfl,b4⟩;have a7:=Hd b4;have c7:=Hd (c8 w6 b4);clear b4)
     | (
       go_at_call 42;refine c7.mono ?_;rintro e w7 ⟨g,bx,cc,c',AO,cO,rfl,hr,hg,b5⟩
       have bl:=Hd ((U.below a7 U.lt).below b5 (AK U.lt a7.size));have ah:=Hd (And.intro hr (And.intro hg (I.trans ((a7.trans (b5.mono a7.size)).mono I.size))));clear hr hg b5;obtain⟨v0,v1,v2,v3,v4,v5,v6,v7,v8,v9,f0,f1,f2,f3,f4,f5,f6,f7,f8,f9,vl⟩:=EV bl))
    all_goals obtain⟨hl,hc⟩:=G5 (k:=1) (s:=⟨#[]⟩) (b:=false) (c:=false) (A1:=AO) (n1:=1) (c1:=cO) (A2:=nK) (n2:=0) (c2:=0) (A3:=nK) (n3:=0) (c3:=0) (A4:=nK) (n4:=0) (c4:=0) (A5:=nK) (n5:=0) (c5:=0) (A6:=nJ ⟨g,0,nK⟩) (n6:=1) (c6:=c') bl
    all_goals refine bodyPost_ret (KV rfl rfl hl) rfl (.inl ⟨bk,_,⟨g,bx,cc,c',AO,cO,rfl,ah.1.Ay hc ?_,?_,ah.2.2.trans (hc.below ah.2.2.size fun b C hx=>by omega)⟩,rfl⟩)
    all_goals have h5:=I.size
    all_goals have h6:=a7.size
    all_goals have h7:=ah.2.1
    all_goals have h8:=U.lt
    all_goals omega
section
set_option maxRecDepth 1000000
def KB:CU:=⟨[0],[],[]⟩
def Nq:CU:=KB.push 3 0 3
def OR(i:Bool):List Nd:=[⟨3,0,-1,[],true,true⟩,⟨67,-1,69,[0],false,true⟩,⟨66,-1,67,[1],false,true⟩,⟨45,-1,12,[2],false,true⟩,⟨44,-1,10,[3],false,true⟩,⟨43,-1,8,[4],false,true⟩,⟨42,-1,5,[5],false,true⟩,⟨41,-1,4,[6],false,true⟩,⟨40,-1,1,[7],false,i⟩]
def Ki:CU:=⟨[67,23,0],[9,8],OR false++[⟨5,1,-1,[],true,false⟩]⟩
def Gr:List Nd:=OR true++[⟨5,1,-1,[],true,true⟩,⟨39,-1,0,[8,9],false,false⟩]
def WI:CU:=⟨[22,0],[10],Gr⟩
def cZ:Gq pz Bi Ch 3 1000 KB=nJ ((1,3),KB):=by kernel_rfl
def jP:(Gq pz Bi Ch 5 1000 Nq).map (fun o=>(o.1.1,o.2.push 5 1 o.1.2))=nJ (1,Ki):=by kernel_rfl
def Xe:Gq pz Bi Ch 0 1000 Ki=nJ ((3,0),WI):=by kernel_rfl
def OG:List Nat:=[10,8,7,6,5,4,3,2,1,0,9]
def Yx:En Gr 100 [10]=nJ OG:=by kernel_rfl
def NG(tr:List Nd)(x:Nd):Bool:=if x.Ff then decide (1<=x.sym/\x.sym<=pz.nt) else decide (0<=x.AX)&&match pz.R[x.AX.toNat]? with|some r=>(r.1:Int)==x.sym&&(decide (x.kids.all fun i=>decide (i<tr.length))&&(r.2.map fun(n:Nat)=>(n:Int))==x.kids.map fun i=>(tr[i]?.map Nd.sym).getD 0)|none=>false
theorem YE{x:Nd}(h:NG tr x=true):I5 tr x:=by
 unfold NG at h;cases o:x.Ff with
 | true=>rw[o,if_pos rfl]at h;have l:=of_decide_eq_true h;exact .inl ⟨o,l.1,l.2⟩
 | false=>
  rw[o,if_neg mV]at h;cases p:pz.R[x.AX.toNat]? with
  | none=>rw[p]at h;simp at h
  | some r=>rw[p]at h;simp only[Bool.and_eq_true,decide_eq_true_eq,beq_iff_eq,List.all_eq_true]at h;obtain⟨h0,l,P,t⟩:=h;refine .inr ⟨o,x.AX.toNat,r,mR,p,l,by simpa using congrArg List.length t,fun j s i R J=>?_⟩;have C:=congrArg (·[j]?) t;simp only[pG,R,J,Option.map_some,Option.some.injEq]at C;have I:=eG (P i (mG J));exact⟨_,I,by rw[C,I];rfl⟩
def aX:∀x∈Gr,I5 Gr x:=fun x i=>YE (List.all_eq_true.1 (by decide +kernel:Gr.all (NG Gr)=true) x i)
end
section
set_option maxRecDepth 1000000
def PD:sN ⟨#[117,110,105,116]⟩=39/\sN ⟨#[108,105,115,116]⟩=41/\sN ⟨#[97,110,100,111,114]⟩=42/\sN ⟨#[112,105,112,101,115]⟩=44/\sN ⟨#[115,105,109,112,108,101]⟩=66/\sN ⟨#[112,114,101,102,105,120]⟩=69/\sN ⟨#[115,117,102,102,105,120]⟩=70:=by have h:=Vg;simp only[List.map_cons,List.map_nil,List.cons.injEq,and_true]at h;exact h
def Yb{B:Nat}{mb:Nat}(h:Ed B w mb T vv)(p:Gy w mb sN)(ht:T.map (·.1)=Gr){K op:Int}{A:Option Addr}{n c:Nat}{N H:ByteArray}(hv:GB w vv 0 K op A n c N H) :
  () 42 #[(mb,0),nE nM (8:Nat)] w (MZ w):=by
 have i:∀(k:Nat) (x:Nd),Gr[k]?=nJ x->∃a0:Nd×nU,T[k]?=nJ a0/\a0.1=x:=fun k x hx=>by rw[<-ht,pG]at hx;exact Option.map_eq_some_iff.1 hx
 obtain⟨p0,h0,e0⟩:=i 0 _ rfl;obtain⟨p1,h1,C⟩:=i 1 _ rfl;obtain⟨p2,U,I⟩:=i 2 _ rfl;obtain⟨p3,h3,J⟩:=i 3 _ rfl;obtain⟨p4,h4,e4⟩:=i 4 _ rfl;obtain⟨p5,h5,P⟩:=i 5 _ rfl;obtain⟨p6,h6,R⟩:=i 6 _ rfl;obtain⟨p7,h7,e7⟩:=i 7 _ rfl;obtain⟨p8,h8,e8⟩:=i 8 _ rfl;obtain⟨-,s1,s2,s3,s4,s5,s6⟩:=PD;refine Y9 h h8 (by rw[e8]) fun y t=>?_
 refine YY (h.later t) (p.later t) h7 (by rw[e7]) h6 (by rw[R,s1];rfl) fun z o=>?_
 have o:=t.trans (o.mono t.size);refine X9 (h.later o) (p.later o) h6 (by rw[R]) h5 (by rw[P,s2];rfl) fun u j=>?_
 have j:=o.trans (j.mono o.size);refine bZ (h.later j) (p.later j) h5 (by rw[P]) h4 (by rw[e4]) h3 (by rw[J,s3];rfl) fun v l=>?_
 have l:=j.trans (l.mono j.size);refine XU (h.later l) (p.later l) h3 (by rw[J];rfl) U (by rw[I,s4];rfl) fun a ha=>?_
 have ha:=l.trans (ha.mono l.size);exact X8 (h.later ha) (p.later ha) U (by rw[I]) h1 (by rw[C];rfl) h0 (j:=0) (by rw[e0];rfl) (hv.later ha) (by rw[C,s5];rfl) (by rw[C,s6];rfl)
def Ia:Nat->CU
 | 0=>KB
 | 1=>Nq
 | _=>Ki
def tB(i:Nat):Nat:=if i=0 then 3 else 5
def jA:Gh pz Bi Ch 3 1000 KB.st=nJ (1,3):=by kernel_rfl
def X3:Gh pz Bi Ch 5 1000 Nq.st=nJ (1,67):=by kernel_rfl
def Y6:Gh pz Bi Ch 0 1000 Ki.st=nJ (3,0):=by kernel_rfl
def aS:([3,0,67,23].all fun s=>decide (s<Bi.length))=true:=by decide +kernel
def MT(C:i<=2):∀s∈(Ia i).st,s<Bi.length:=by
 have h:=aS;simp only[List.all_cons,List.all_nil,Bool.and_eq_true,decide_eq_true_eq,and_true]at h;obtain⟨l,o,p,t⟩:=h;have j:i=0\/i=1\/i=2:=by omega
 rcases j with rfl|rfl|rfl<;>simp[Ia,KB,Nq,Ki,CU.push]<;>omega
def YK(P:i<2):∃a o,Gh pz Bi Ch (tB i) 1000 (Ia i).st=nJ a/\a.1≠0/\Gq pz Bi Ch (tB i) 1000 (Ia i)=nJ o/\o.2.push (tB i) i o.1.2=Ia (i+1)/\(o.2.st.length<=9000/\o.2.ns.length<=9000/\o.2.tr.length<=90000)/\(Ia i).st.length=(Ia i).ns.length+1:=by
 have J:i=0\/i=1:=by omega
 rcases J with rfl|rfl
 ·exact⟨_,_,jA,mT,cZ,rfl,⟨mT,mT,mT⟩,rfl⟩
 ·obtain⟨o,C,I⟩:=Option.map_eq_some_iff.1 jP
  have j:=(Prod.mk.inj I).2;have l:=congrArg (·.st.length) j;have p:=congrArg (·.ns.length) j;have t:=congrArg (·.tr.length) j;simp[CU.push,Ki,OR]at l p t;exact⟨_,o,X3,mT,C,j,⟨mR,mR,mR⟩,rfl⟩
def lG:Jm Gr OG=[⟨3,0,-1,[],true,true⟩,⟨5,1,-1,[],true,true⟩]:=by rfl
def Yu:(Gr.all fun x=>x.kids.all fun j=>decide (j<11))=true/\(Gr.all fun x=>decide (x.kids.length<=2))=true:=by decide
end
