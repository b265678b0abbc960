/- . -/
import Derived.Test.YtiljpamcmmeflaaGreatDoorXas
set_option linter.all false
set_option maxRecDepth 100000
set_option maxHeartbeats 16000000
namespace Go.Proofs.YtiljpamcmmeflaaGreatDoor
open Go.RowKit Go.Proofs.Tryz
open Value renaming slice→nC,int→nE,pointer→nF,bool→nI
open Option renaming some→nJ,none→nK
open IntKind renaming i64→nM
open Obj renaming cells→nO
open Ending renaming returned→nP
open World renaming cell?→nQ
open Go renaming World→nS,Value→nU
variable{F:List It}{i k:Nat}{x:It}{fv:nU}{q:Gz.Cr}{A:Nat->Prop}
section
variable {w1 w3 wr:nS} {mb fb n c:Nat} {v lv rv tlv uv cv bv av ev:nU} {g:Gz} {base:List Nat} {P:List AH} {S:List Nat} {ED:List (Option AH×Edge)} {FR:List (nU×List It)}
def NL(w1 w3 wr:nS)(mb fb n c:Nat)(v lv rv tlv uv cv bv ev:nU)(g:Gz)(base:List Nat)(P:List AH)(S:List Nat)(ED:List (Option AH×Edge))(FR:List (nU×List It))(e:Ending)(w':nS):Prop:=
 e=nP P.length/\∃i t,Mk w1 w3 w' mb fb n c v lv rv tlv uv cv bv i ev g base (P++[t]) (S++[0]) ED FR/\AI w1 [253,254] wr w'/\∀(q:Option AH) (T:Nat),Cl wr (g.nt+1) P q T->Cl w' (g.nt+1) (P++[t]) q T
def SV(a6:GN w1 v g)(h:Mk w1 w3 wr mb fb n c v lv rv tlv uv cv bv av ev g base P S ED FR)(hP:P.length<=1000000):() 149 #[(mb,0)] wr (NL w1 w3 wr mb fb n c v lv rv tlv uv cv bv ev g base P S ED FR):=by
 have ah:=a6.fit.nt;obtain⟨C,R,AN,cN,AR,cR,rfl,-,-⟩:=a6.open_;obtain⟨o,p,ae⟩:∃A c,av=nC A P.length c:=by
  rcases Bg h.all with⟨e1,e2⟩|⟨b,c,e,_⟩
  ·exact⟨nK,0,by rw[e1,e2]⟩
  ·exact⟨_,c,e⟩
 subst ae;have T:=Hd h;have z0:nQ wr (mb,0)=nJ (nC C g.nt R):=Ah.cell h.Ap 0;have a4:nQ wr (mb,10)=nJ (nC o P.length p):=Ah.cell h.Ap 10;have ml:=h.Ap.lt;have ad:=Hd h.Ay.size;have aa:Hid (() 192 #[nE nM ((g.nt:Int)+1)] wr.drew fun e w'=>e=nP (wr.heap.size+1,0)/\AU w' ⟨wr.heap.size+1,wr.heap.size,g.nt+1⟩ 0/\Below wr wr w'):=Hd (by refine(LU (w:=wr.drew) (n:=g.nt+1) mR mR).mono ?_;rintro e w' ⟨rfl,h1,h2⟩;exact⟨rfl,h1,((Below.refl _ wr).drew).trans h2⟩)
 obtain⟨l,a3⟩:∃k,P.length=k:=⟨_,rfl⟩
 have J:=Hd a3;rw[a3]at a4 hP;have af:IntKind.i64.wrap ((g.nt:Int)+1)=(g.nt:Int)+1:=by rw[IntKind.wrap_i64];omega
 have a5:Hid (∀Y,Below wr wr Y->nQ Y (mb,10)=nJ (nC o l p)/\nQ Y (mb,0)=nJ (nC C g.nt R)):=Hd (fun Y hy=>⟨(hy.cell (p:=⟨mb,10,nK⟩) ml).trans a4,(hy.cell (p:=⟨mb,0,nK⟩) ml).trans z0⟩);clear h a3;unfold NL;go_enter func149,ntmps149
 go_upto_region 1 with fail
 refine CO 17 (fun(v:nS)=>nQ v (mb,10)=nJ (nC o l p)/\nQ v (mb,0)=nJ (nC C g.nt R)) mU ?_;have j:(fun(v:nS)=>nQ v (mb,10)=nJ (nC o l p)/\nQ v (mb,0)=nJ (nC C g.nt R)) wr.drew:=⟨a4,z0⟩
 refine AG 0 j ?_;simp only[AD,AA];refine AG 1 j ?_;simp only[AD,AA];refine AG 2 j ?_;simp only[AD,AA];refine AG 3 j ?_;simp only[AD,AA];refine AG 4 j ?_;simp only[AD,AA];refine AG 5 j ?_;simp only[AD,AA];refine AG 6 j ?_;simp only[AD,AA];refine AG 7 j ?_;simp only[AD,AA];refine AG 8 j ?_;simp only[AD,AA];refine AG 9 j ?_;simp only[AD,AA];refine AG 10 j ?_;simp only[AD,AA];refine AG 11 j ?_;simp only[AD,AA];refine Be 12 mU rfl rfl (fun K i=>?_);go_simp
 refine aa.out.mono ?_;rintro e t ⟨rfl,a7,a0⟩;have ab:=Hd a7;have a8:=Hd a0;have I:Hid (Below wr wr (t.alloc (nO #[(wr.heap.size+1,0)] 254))):=Hd (a0.alloc a0.size _);clear a7 a0;refine i.out _ _ (fun _=>a5.out t a8.out) ?_;clear i K j;refine Be 13 mU rfl rfl (fun K i=>?_);go_simp;refine i.out _ _ (fun _=>a5.out _ I.out) ?_;clear i K;refine Co 14 mU rfl rfl rfl (fun K i=>?_);refine Dt Tj (.tmp 7) (.tmp 16) rfl (base:=w3.heap.size) (n:=l) (m:=1) (N:=l+1) (v:=nC o l p) (src:=nC (t,0) 1 1) (xs:=P.map AH.v) (news:=[nF (nJ ⟨wr.heap.size+1,0,nK⟩)]) rfl rfl (AV (by have h:=T.out.all;rw[J.out]at h;exact h) I.out) (Ba.Ap (c:=1) (cs:=[nF (nJ ⟨wr.heap.size+1,0,nK⟩)]) (Ah.new t 254 _) rfl mZ) rfl mW mR (by have:=ad.out;have:=I.out.size;omega) ?_
 intro A4 c4 w4 q1 q2 q3;have U:Hid (Ah w4 mb 253 _):=Hd (q2.Ap (T.out.Ap.below I.out T.out.Ap.lt) (.inr mT));have y0:nQ w4 (mb,0)=nJ (nC C g.nt R):=Ah.cell U.out 0;have a1:nQ w4 (mb,10)=nJ (nC o P.length p):=Ah.cell U.out 10;rw[J.out]at a1;have yf:=Ah.frozen U.out 10;have yl:=U.out.lt;have a2:=Hd (T.out.iY (W:=t.alloc (nO #[(wr.heap.size+1,0)] 254)) I.out (t:=⟨wr.heap.size+1,wr.heap.size,g.nt+1⟩) (ab.out.later (AE t _)) rfl ⟨mV,AF _⟩ (A:=A4) (c2:=c4) (by rw[J.out];exact q1) q2)
 rw[J.out]at a2;clear q1 q2 q3;refine i.out _ _ (fun _=>⟨a1,y0⟩) ?_;clear i K;simp only[List.set_cons_succ,List.set_cons_zero];refine Be 15 mU rfl rfl (fun K i=>?_);go_simp;refine i.out _ _ (fun _=>⟨a1,y0⟩) ?_;clear i K;refine Be 16 mU rfl rfl (fun K i=>?_);go_simp;refine i.out _ _ (fun _=>⟨a1,y0⟩) ?_;clear i K;refine Be 17 mU rfl rfl (fun K i=>?_);go_simp;refine i.out _ _ (fun h=>absurd rfl h) ?_;clear i K;refine CI mU ?_ _;have a9:=Hd a2.out.1;have ai:(w4.setCell (mb,10) (nC A4 (l+1) c4)).cell? (mb,10)=nJ (nC A4 (l+1) c4):=Ah.cell a9.out.Ap 10
 have ag:IntKind.i64.wrap ((l:Int)+1-1)=(l:Int):=by rw[IntKind.wrap_i64];omega
 go_wp2_with fail
 go_ret;exact⟨JJ J.out.symm,_,_,a2.out⟩
def fE(I:F[i]?=nJ x)(C:x.1=k)(p:∀j,j<i->∀y,F[j]?=nJ y->y.1≠k):F.find? (fun f=>f.1==k)=nJ x:=by rw[List.find?_eq_some_iff_getElem];obtain⟨l,o⟩:=sG.1 I;refine⟨by simp[C],i,l,o,fun j t=>?_⟩;have:=p j t _ (eG mR);simp[this]
def eB(l:∀j,j<F.length->∀y,F[j]?=nJ y->y.1≠k):F.find? (fun f=>f.1==k)=nK:=by rw[List.find?_eq_none];intro y o;obtain⟨j,i,e⟩:=List.mem_iff_getElem.1 o;have:=l j i y (by rw[eG i,e]);simp[this]
def RZ{j:Type}(l:List j)(i:Nat)(x:j)(h:l[i]?=nJ x):l.set i x=l:=by obtain⟨o,p⟩:=sG.1 h;rw[<-p];exact List.set_getElem_self o
def MA(w1 w3 wr:nS)(mb fb n c:Nat)(v lv rv tlv uv cv bv ev:nU)(g:Gz)(base:List Nat)(P:List AH)(S:List Nat)(ED:List (Option AH×Edge))(FR:List (nU×List It))(s:Nat)(r:Nat×Nat×List It)(e:Ending)(w':nS):Prop:=
 e=nP r.1/\∃l i j,Mk w1 w3 w' mb fb n c v lv rv tlv uv cv bv l ev g base i (S++List.replicate (i.length-P.length) 0) ED j/\i.length=r.2.1/\j.map (·.2)=(FR.map (·.2)).set s r.2.2/\AI w1 [253,254,305,307] wr w'/\∀(q:Option AH) (T:Nat),Cl wr (g.nt+1) P q T->Cl w' (g.nt+1) i q T
def VB(ad:GN w1 v g)(h:Mk w1 w3 wr mb fb n c v lv rv tlv uv cv bv av ev g base P S ED FR)(hP:P.length<=100000){s:Nat}(l:FR[s]?=nJ (fv,F))(hF:F.length<=100000):Calls Tryz.prog 198 #[nF (nJ ⟨mb,0,nK⟩),nE nM s,nE nM k] wr (MA w1 w3 wr mb fb n c v lv rv tlv uv cv bv ev g base P S ED FR s (Gz.Df P.length F k)):=by
 have hs:s<n:=by have h1:=(sG.1 l).1;have h2:=h.fin.len;omega
 obtain⟨p,I,b6⟩:∃A c,fv=nC A F.length c:=by
  rcases Bg (h.fin.own s _ l) with⟨e1,e2⟩|⟨b,c,e,_⟩
  ·have b0:fv=nC nK 0 0:=e1
   have b1:F.length=0:=e2;exact⟨nK,0,by rw[b0,b1]⟩
  ·exact⟨_,c,e⟩
 subst b6;have HM:=Hd h;have HY:=Hd l;have a9:Hid (CK wr (nC p F.length I) F):=Hd (CK.own (h.fin.own s _ l) mR);have ag:nQ wr ⟨mb,12,nK⟩=nJ (nC (nJ ⟨fb,0,nK⟩) n c):=by obtain⟨x0,x1,x2,x3,rfl⟩:=h.vf;exact Ah.cell h.Ap 12
 have zf:nQ wr ⟨fb,s,nK⟩=nJ (nC p F.length I):=by rw[Bb h.fin.row s mR,pG,l];rfl
 have ml:=h.Ap.lt;have fl:=(BR h.fin.row fb rfl).1;have be:(s:Int)<(n:Int):=by omega
 have ao:=Hd ad;have an:Hid (P.length<=100000):=Hd hP;obtain⟨lf,a3⟩:∃ba,F.length=ba:=⟨_,rfl⟩
 have R:=Hd a3;have HZ:Hid (∀Y,Below wr.heap.size wr Y->nQ Y ⟨mb,12,nK⟩=nJ (nC (nJ ⟨fb,0,nK⟩) n c)/\nQ Y ⟨fb,s,nK⟩=nJ (nC p lf I)):=Hd (fun Y l=>⟨(l.cell (p:=⟨mb,12,nK⟩) ml).trans ag,by rw[<-a3];exact(l.cell (p:=⟨fb,s,nK⟩) fl).trans zf⟩);rw[a3]at zf a9 hF;clear h ad l hP a3 hs;go_enter func198,ntmps198
 go_wp2_with fail
 go_loopw [18] (fun ii w'=>∃i:Nat,i<=lf/\ii=nE nM i/\Hid (Below wr.heap.size wr w')/\Hid (∀a0,a0<i->∀y,F[a0]?=nJ y->y.1≠k)) (fun ii _=>lf-(intOf ii).toNat)
 case atStart=>exact⟨0,A0 _,rfl,Hd (Below.refl _ _),Hd (fun a0 hj=>by omega)⟩
 case round=>
  obtain⟨i,hi,rfl,t,HN⟩:=hrel;rename nS=>w8
  by_cases b8:i<lf
  ·obtain⟨⟨xa,xb⟩,hx⟩:∃x,F[i]?=nJ x:=⟨_,eG (by rw[R.out];exact b8)⟩
   obtain⟨⟨A',c',e,hc⟩,-,-⟩:=a9.later t;have e2:p=A':=by cases e;rfl
   subst e2;obtain⟨b,off,rfl,hb,d0,d1⟩:=hc i _ hx;simp only at d0 d1;have HX:=Hd hx;clear hc e hx;by_cases hk:xa=k
   ·have b9:((xa:Int)==(k:Int))=true:=by rw[hk];simp
    have HK:=Hd hk;clear hk;go_wp2_with fail
    go_ret;have b5:=fE HX (by exact HK) HN;have hM:=HM.later (t.trans ((AE w8 (nO #[nE nM xa,nE nM xb] 307)).mono t.size));unfold MA Gz.Df;rw[b5];refine⟨rfl,av,P,FR,?_,rfl,?_,AI.AJ (t.trans ((AE w8 _).mono t.size)),fun q aa hq=>hq.later (t.trans ((AE w8 _).mono t.size))⟩
    ·rw[Nat.sub_self,List.replicate_zero,List.append_nil]
     exact hM
    ·exact(RZ _ s F (by rw[pG,HY.out];rfl)).symm
   ·have b9:((xa:Int)==(k:Int))=false:=by rw[bN];omega
    have HK:=Hd hk;clear hk;go_wp2_with fail
    go_roundw
    case rel=>exact⟨i+1,mR,mY,Hd (t.trans ((AE w8 _).mono t.size)),Hd (fun a0 hj y l=>by
     by_cases b7:a0=i
     ·subst b7
      rw[HX.out]at l;cases l
      exact HK
     ·exact HN a0 mR y l)⟩
    case measure=>simp[intOf];omega
  ·obtain rfl:i=lf:=by omega
   have a8:Hid (Gz.Df P.length F k=(P.length,P.length+1,F++[(k,P.length)])):=Hd (by unfold Gz.Df;rw[eB (by rw[R.out];exact HN.out)])
   have a4:=Hd (SV ao (HM.later t) (by have:=an.out;omega));unfold NL at a4;obtain⟨J,a7⟩:∃k,P.length=k:=⟨_,rfl⟩
   have a2:=Hd a7;rw[a7]at a4;clear a7;go_upto_region 8 with(
       go_at_call 149;refine a4.mono ?_;rintro e C ⟨rfl,az,a1,af,ae,ab⟩
       have o:=Hd af;have ar:=Hd ae;have al:=Hd ab;clear af ae ab)
   have ai:nQ C ⟨mb,12,nK⟩=nJ (nC (nJ ⟨fb,0,nK⟩) n c):=by obtain⟨x0,x1,x2,x3,rfl⟩:=o.vf;exact Ah.cell o.Ap 12
   have aj:nQ C ⟨fb,s,nK⟩=nJ (nC p i I):=by rw[Bb o.fin.row s mR,pG,HY.out,<-R.out];rfl
   have bb:=o.Ap.lt;have b2:=(BR o.fin.row fb rfl).1;have aw:Hid (C.ownsRow w3.heap.size 307 2 (nC p i I) i (F.flatMap Bf)):=Hd (by have h:=o.fin.own s _ HY;simp only at h;rw[R.out]at h;exact h);have ax:Hid (∀Y,Below C.heap.size C Y->nQ Y ⟨mb,12,nK⟩=nJ (nC (nJ ⟨fb,0,nK⟩) n c)/\nQ Y ⟨fb,s,nK⟩=nJ (nC p i I)):=Hd (fun Y l=>⟨(l.cell (p:=⟨mb,12,nK⟩) bb).trans ai,(l.cell (p:=⟨fb,s,nK⟩) b2).trans aj⟩);have ay:=Hd o.Ay.size;have bf:s<n:=by omega
   clear ag zf ml fl;refine CO 18 (fun(v:nS)=>nQ v ⟨mb,12,nK⟩=nJ (nC (nJ ⟨fb,0,nK⟩) n c)/\nQ v ⟨fb,s,nK⟩=nJ (nC p i I)) mU ?_;have j:(fun(v:nS)=>nQ v ⟨mb,12,nK⟩=nJ (nC (nJ ⟨fb,0,nK⟩) n c)/\nQ v ⟨fb,s,nK⟩=nJ (nC p i I)) C.drew:=⟨ai,aj⟩
   refine AG 0 j ?_;simp only[AD,AA];refine AG 1 j ?_;simp only[AD,AA];refine AG 2 j ?_;simp only[AD,AA];refine AG 3 j ?_;simp only[AD,AA];refine AG 4 j ?_;simp only[AD,AA];refine AG 5 j ?_;simp only[AD,AA];refine AG 6 j ?_;simp only[AD,AA];refine AG 7 j ?_;simp only[AD,AA];refine AG 8 j ?_;simp only[AD,AA];refine AG 9 j ?_;simp only[AD,AA];refine AG 10 j ?_;simp only[AD,AA];refine AG 11 j ?_;simp only[AD,AA];refine AG 12 j ?_;simp only[AD,AA];refine AG 13 j ?_;simp only[AD,AA]
   refine AG 14 j ?_;simp only[AD,AA];refine Be 15 mU rfl rfl (fun K T=>?_);go_simp;refine T _ _ (fun _=>?_) ?_
   ·exact ax _ (((Below.refl _ C).alloc (AF _) _).drew)
   clear T K j;refine Co 16 mU rfl rfl rfl (fun K T=>?_);refine Dt dH (.tmp 42) (.tmp 46) rfl (base:=w3.heap.size) (n:=i) (m:=1) (N:=i+1) (v:=nC p i I) (src:=nC (nJ ⟨C.heap.size,0,nK⟩) 1 1) (xs:=F.flatMap Bf) (news:=Bf (k,J)) rfl rfl (AV (aw.alloc _) ((Below.refl _ _).drew)) (Ba.Ap (c:=1) (cs:=Bf (k,J)) (Ah.drew (Ah.new C 307 _)) rfl (fun u hu=>by unfold Bf at hu;simp at hu;rcases hu with rfl|rfl<;>rfl)) rfl mW mR (by have:=ay.out;simp;omega) ?_;intro A7 c7 w7 q1 q2 q3;have a5:=Hd (o.ended (((Below.refl _ C).alloc (AF _) (nO #[nE nM k,nE nM J] 307)).drew) HY (x:=(k,J)) (A:=A7) (c2:=c7) (by simp only[R.out];exact q1) q2 (by simp only[R.out];exact q3))
   simp only[R.out]at a5;have a6:Hid (w7.ownsRow w1.heap.size 305 1 (nC (nJ ⟨fb,0,nK⟩) n c) n (FR.map (·.1))):=Hd (q2.own (AV (o.fin.row.alloc _) ((Below.refl _ _).drew)) (.inr mT));have ak:nQ w7 ⟨fb,s,nK⟩=nJ (nC p i I):=by rw[Bb a6.out s mR,pG,HY.out,<-R.out];rfl
   have bd:=GU a6 s;have bh:=(BR a6 fb rfl).1;have au:Hid (Ah w7 mb 253 _):=Hd (q2.Ap (Ah.drew (o.Ap.alloc _)) (.inr mT));have ah:nQ w7 ⟨mb,12,nK⟩=nJ (nC (nJ ⟨fb,0,nK⟩) n c):=by have h:=au.out;obtain⟨x0,x1,x2,x3,e⟩:=o.vf;rw[e]at h;exact Ah.cell h 12
   have aq:Hid (AI w1.heap.size [307,305] ((C.alloc (nO #[nE nM k,nE nM J] 307)).drew) (w7.setCell ⟨fb,s,nK⟩ (nC A7 (i+1) c7))):=Hd (by obtain⟨bc,b3⟩:=o.fin.Ap;have b4:=q2.Ap (Ah.drew (b3.alloc (nO #[nE nM k,nE nM J] 307))) (.inr mT);exact(q2.mono o.lo.2.2 (fun a1 U=>by simp at U;simp[U])).trans (((AI.refl w1.heap.size [307,305] w7).EF b4 o.lo.2.1 mV s _)))
   clear q1 q2 q3;refine T _ _ (fun _=>⟨ah,ak⟩) ?_;clear T K;simp only[List.set_cons_succ,List.set_cons_zero];have j:(fun(v:nS)=>nQ v ⟨mb,12,nK⟩=nJ (nC (nJ ⟨fb,0,nK⟩) n c)/\nQ v ⟨fb,s,nK⟩=nJ (nC p i I)) w7:=⟨ah,ak⟩
   refine AG 17 j ?_;simp only[AD,AA];clear j;refine Be 18 mU rfl rfl (fun K T=>?_);go_simp;refine T _ _ (fun h=>absurd rfl h) ?_;clear T K;refine CI mU ?_ _;go_wp2_with fail
   go_ret;unfold MA;rw[a2.out]at a8;rw[a2.out,a8.out];refine⟨rfl,az,P++[a1],FR.set s (nC A7 (i+1) c7,F++[(k,J)]),?_,?_,?_,(AI.AJ t).trans ((ar.mono (T':=[253,254,305,307]) (AF _) (fun a1 U=>by simp at U;rcases U with rfl|rfl<;>decide)).trans (a5.2.mono (T':=[253,254,305,307]) (AF _) (fun a1 U=>by simp at U;rcases U with rfl|rfl<;>decide))),fun q aa hq=>?_⟩
   ·have hM:=a5.1
    have e:S++List.replicate ((P++[a1]).length-J) 0=S++[0]:=by rw[BS,a2.out,List.length_singleton,Nat.add_sub_cancel_left];rfl
    rw[e];exact hM
   ·simp[a2.out]
   ·rw[List.map_set]
   ·exact((al q aa (hq.later t)).later (((Below.refl _ C).alloc (AF _) (nO #[nE nM k,nE nM J] 307)).drew)).keeps (aq) mT mT
end
structure PF(w1 w3:nS)(mb fb:Nat)(v lv rv tlv uv cv:nU)(g:Gz)(V:List (nU×nU))(L E:List (List It))(T:List (List (Nat×Bool)))(CC:List (List AZ)):Prop where
 gn:GN w1 v g
 GC:Fu w1 lv V L E
 Hb:Dl (Sx mb fb w3.heap.size) w3 rv (g.R.length+1) g.right
 Jw:FY (Sx mb fb w3.heap.size) w3 (g.nt+1) tlv (g.R.length+1) T
 QJ:Dl (Sx mb fb w3.heap.size) w3 uv (g.top+1) g.CF
 Va:Jh (Sx mb fb w3.heap.size) w3 (g.nt+1) cv (g.top+1) CC
 Mv:∀k,k<=g.R.length->(T.getD k []).length=(g.right k).length
 iD:∀l∈CC,∀c∈l,c.s<=g.top
 mx:CC.length=g.top+1
variable{T:List (List (Nat×Bool))}{L:List (List It)}
def SB(xs:Bool)(i:Nat)(c:AZ)(own:Bool)(t:Nat×Bool):(CD xs i c own t).1.s=c.s:=by
 unfold CD;split
 ·rfl
 ·split
  ·rfl
  ·split<;>rfl
theorem ZZ{g:Gz}(t:g.Fit){xs:Bool}{p:List AZ×List Nat}(h:∀c∈p.1,c.s<=g.top):∀c∈(g.FL T i xs p k).1,c.s<=g.top:=by
 unfold Gz.FL;split
 ·exact h
 ·rename_i y r I
  have J:y<=g.top:=t.Mn (k:=k) (by rw[I];simp);split
  ·exact h
  ·split
   ·rename_i j R
    intro c o;rcases List.mem_or_eq_of_mem_set o with l|l
    ·exact h c l
    ·rw[l,SB]
     rw[dG];cases C:p.1[j]? with
     | none=>exact A0 _
     | some d=>exact h d (mG C)
   ·intro c o
    rcases mA.1 o with l|l
    ·exact h c l
    ·rw[mS.1 l,SB]
     exact J
theorem TC{g:Gz}(j:g.Fit){T:List (List (Nat×Bool))}{i:Nat}{xs:Bool}:∀(l:List Nat) (p:List AZ×List Nat),(∀c∈p.1,c.s<=g.top)->∀c∈(l.foldl (g.FL T i xs) p).1,c.s<=g.top
 | [],p,h=>h
 | k::l,p,h=>TC j l _ (ZZ j h)
theorem Up{g:Gz}(o:g.Fit){T:List (List (Nat×Bool))}:∀(f:Nat) (out:List AZ) (l:List Nat) (r:List AZ),(∀c∈out,c.s<=g.top)->g.Ha T f out l=nJ r->∀c∈r,c.s<=g.top
 | 0,out,l,r,_,j=>by simp[Gz.Ha]at j
 | f+1,out,[],r,h,j=>by
  unfold Gz.Ha at j;cases j
  exact h
 | f+1,out,i::l,r,h,j=>by
  unfold Gz.Ha at j;split at j
  ·cases j
  ·exact Up o f _ _ r (TC o _ _ h) j
theorem Ud{g:Gz}(I:g.Fit){T:List (List (Nat×Bool))}:∀(N:Nat) (j:List (List AZ)),N<=g.top+1->g.Db T N=nJ j->∀l∈j,∀c∈l,c.s<=g.top
 | 0,j,_,h=>by
  unfold Gz.Db at h;cases h
  intro l o;cases o
 | N+1,j,hN,h=>by
  unfold Gz.Db at h;cases C:g.Db T N with
  | none=>rw[C]at h;cases h
  | some U=>
   rw[C]at h;have J:=Ud I N U mR C;simp only at h;intro l o;split at h
   ·cases h
    rcases mA.1 o with i|i
    ·exact J l i
    ·rw[mS.1 i]
     intro c t;cases t
   ·split at h
    ·cases h
    ·rename_i r R
     cases h
     rcases mA.1 o with i|i
     ·exact J l i
     ·rw[mS.1 i]
      exact Up I _ _ _ r (fun c t=>by rw[mS.1 t];simp only;omega) R
def Ew(p q:Gz.Cr):Prop:=p.1<=q.1/\p.2.1.length<=q.2.1.length/\p.2.2.length<=q.2.2.length
def Ew.refl(p:Gz.Cr):Ew p p:=⟨AF _,AF _,AF _⟩
def Ew.trans{p r:Gz.Cr}(h:Ew p q)(k:Ew q r):Ew p r:=⟨AY h.1 k.1,AY h.2.1 k.2.1,AY h.2.2 k.2.2⟩
def N2(n:Nat)(F:List It)(k:Nat):n<=(Gz.Df n F k).2.1/\F.length<=(Gz.Df n F k).2.2.length:=by
 unfold Gz.Df;split
 ·exact⟨AF _,AF _⟩
 ·exact⟨Nat.le_succ _,mV⟩
theorem Mg{g:Gz}{L E:List (List It)}{base:List Nat}{st at_ j:Nat}{self i:Bool}:∀(l:List Nat) (p q:Gz.Cr),g.Fx L E base st at_ j self i l p=nJ q->Ew p q
 | [],p,q,h=>by
  unfold Gz.Fx at h;cases h
  exact Ew.refl _
 | k::l,p,q,h=>by
  unfold Gz.Fx at h;split at h
  ·refine Ew.trans ?_ (Mg l _ q h)
   obtain⟨o,t⟩:=N2 p.1 p.2.1 k;refine⟨o,t,?_⟩;show p.2.2.length<=(if i=true then p.2.2 else _).length;split
   ·exact AF _
   ·simp
  ·split at h
   ·cases h
   ·refine Ew.trans ?_ (Mg l _ q h)
    refine⟨AF _,AF _,?_⟩;show p.2.2.length<=(if i=true then p.2.2 else _).length;split
    ·exact AF _
    ·simp
theorem Nu{g:Gz}{L E:List (List It)}{base:List Nat}{st at_:Nat}{t:Nat×Bool}:∀(l:List AZ) (p q:Gz.Cr),g.F9 L E base st at_ t l p=nJ q->Ew p q
 | [],p,q,h=>by
  unfold Gz.F9 at h;cases h
  exact Ew.refl _
 | c::l,p,q,h=>by
  unfold Gz.F9 at h;split at h
  ·cases h
  ·rename_i j i
   exact(Mg _ _ _ i).trans (Nu l _ q h)
def TK{g:Gz}{E:List (List It)}{base:List Nat}{i:List (List AZ)}{st at_:Nat}{p:Gz.Cr}(h:g.GJ L E base T i st at_ x p=nJ q):Ew p q:=by
 unfold Gz.GJ at h;split at h
 ·cases h;exact Ew.refl _
 ·split at h
  ·cases h
  ·split at h
   ·refine Ew.trans ?_ (Nu _ _ _ h)
    exact⟨AF _,AF _,mV⟩
   ·cases h
    exact⟨AF _,AF _,mV⟩
theorem MX{g:Gz}{L E:List (List It)}{base:List Nat}{T:List (List (Nat×Bool))}{i:List (List AZ)}{st:Nat}:∀(l:List It) (a:Nat) (p q:Gz.Cr),g.EI L E base T i st l a p=nJ q->Ew p q
 | [],a,p,q,h=>by
  unfold Gz.EI at h;cases h
  exact Ew.refl _
 | x::l,a,p,q,h=>by
  unfold Gz.EI at h;split at h
  ·cases h
  ·rename_i o j
   exact(TK j).trans (MX l _ _ q h)
def Small(L:List (List It))(base:List Nat):Prop:=base.length=L.length/\(∀b∈base,b<=100000)/\∀l∈L,l.length<=100000
theorem lK{base:List Nat}(J:Small L base){r:Nat}(h:Gz.JV L base i x=nJ r):r<=1000000:=by
 have l:=kW h;unfold Gz.JV at h;obtain⟨j,C,rfl⟩:=Option.map_eq_some_iff.1 h;obtain⟨R,o,t⟩:=J;have T:base.getD i 0<=100000:=by
  rw[dG];cases I:base[i]? with
  | none=>exact A0 _
  | some b=>exact o b (mG I)
 have U:(L.getD i []).length<=100000:=by rw[dG,eG l];exact t _ (List.getElem_mem l)
 have:=(sG.1 (Uc C).1).1;omega
def NY{g:Gz}{E:List (List It)}{base:List Nat}(j:Small L base){r:Nat}(h:g.Hp L E base i x=nJ r):r<=1000000:=by
 unfold Gz.Hp at h;split at h
 ·cases h
 ·exact lK j h
def TT:List TypeId:=[253,254,305,307,299]
structure CZ(w1 w3 w0 wr:nS)(mb fb n c:Nat)(v lv rv tlv uv cv bv av ev:nU)(g:Gz)(base:List Nat)(P:List AH)(S:List Nat)(ED:List (Option AH×Edge))(FR:List (nU×List It))(FR0:List (List It))(st n0:Nat)(p:Gz.Cr):Prop where
 Bw:Mk w1 w3 wr mb fb n c v lv rv tlv uv cv bv av ev g base P (S++List.replicate (P.length-n0) 0) ED FR
 len:P.length=p.1
 row:∃fv,FR[st]?=nJ (fv,p.2.1)
 rows:FR.map (·.2)=FR0.set st p.2.1
 JG:ED.map (·.2)=p.2.2
 keeps:AI w1 TT w0 wr
 ge:n0<=p.1
variable{v:nU}{n:Nat}
section
variable {w1 w3 w0 wr w2 W W2:nS} {mb fb n c:Nat} {v lv rv tlv uv cv bv av ev:nU} {g:Gz} {base:List Nat} {P:List AH} {S:List Nat} {ED:List (Option AH×Edge)} {FR:List (nU×List It)} {FR0:List (List It)} {st n0:Nat} {p:Gz.Cr}
def CZ.later(h:CZ w1 w3 w0 wr mb fb n c v lv rv tlv uv cv bv av ev g base P S ED FR FR0 st n0 p)(i:Below wr wr w2):CZ w1 w3 w0 w2 mb fb n c v lv rv tlv uv cv bv av ev g base P S ED FR FR0 st n0 p:=
 ⟨h.Bw.later i,h.len,h.row,h.rows,h.JG,h.keeps.trans (AI.AJ i),h.ge⟩
def CZ.LI(h:CZ w1 w3 w0 wr mb fb n c v lv rv tlv uv cv bv av ev g base P S ED FR FR0 st n0 p)(o:Below wr wr W){x:Option AH×Edge}(C:Cl wr (g.nt+1) P x.1 x.2.set){A:Option Addr}{c2:Nat}(I:W2.ownsRow w3 299 4 (nC A (ED.length+1) c2) (ED.length+1) (ED.flatMap DB++DB x))(J:AI w3 [299] W W2) :
  CZ w1 w3 w0 (W2.setCell (mb,11) (nC A (ED.length+1) c2)) mb fb n c v lv rv tlv uv cv bv av (nC A (ED.length+1) c2) g base P S (ED++[x]) FR FR0 st n0 (p.1,p.2.1,p.2.2++[x.2])/\AI w1 [253,299] wr (W2.setCell (mb,11) (nC A (ED.length+1) c2)):=by
 obtain⟨l,i⟩:=h.Bw.LI o C I J;refine⟨⟨l,h.len,h.row,h.rows,by rw[Bz,h.JG];rfl,h.keeps.trans (i.mono (AF _) (fun t j=>by simp at j;rcases j with rfl|rfl<;>decide)),h.ge⟩,i⟩
def CZ.ended(h:CZ w1 w3 w0 wr mb fb n c v lv rv tlv uv cv bv av ev g base P S ED FR FR0 st n0 p)(a0:st<FR0.length){e:Ending}(he:MA w1 w3 wr mb fb n c v lv rv tlv uv cv bv ev g base P (S++List.replicate (P.length-n0) 0) ED FR st (Gz.Df p.1 p.2.1 k) e w2) :
  e=nP (nE nM (Gz.Df p.1 p.2.1 k).1)/\∃l i j,CZ w1 w3 w0 w2 mb fb n c v lv rv tlv uv cv bv l ev g base i S ED j FR0 st n0 ((Gz.Df p.1 p.2.1 k).2.1,(Gz.Df p.1 p.2.1 k).2.2,p.2.2)/\AI w1 [253,254,305,307] wr w2/\∀(q:Option AH) (T:Nat),Cl wr (g.nt+1) P q T->Cl w2 (g.nt+1) i q T:=by
 obtain⟨J,l,i,j,R,U,o,t,h6⟩:=he;obtain⟨g1,g2⟩:=N2 p.1 p.2.1 k;have a2:=h.ge;have a3:=h.len;refine⟨J,l,i,j,⟨?_,U,?_,?_,h.JG,h.keeps.trans (t.mono (AF _) (fun a4 I=>by simp at I;rcases I with rfl|rfl|rfl|rfl<;>decide)),by simp only;omega⟩,t,h6⟩
 ·have e:S++List.replicate (P.length-n0) 0++List.replicate (i.length-P.length) 0=S++List.replicate (i.length-n0) 0:=by
   rw[List.append_assoc,List.replicate_append_replicate];congr 2;omega
  rw[<-e];exact R
 ·have C:(j.map (·.2))[st]?=nJ (Gz.Df p.1 p.2.1 k).2.2:=by
   rw[o,tG];rw[h.rows,List.length_set];exact a0
  rw[pG]at C;obtain⟨y,hy,a1⟩:=Option.map_eq_some_iff.1 C;exact⟨y.1,by rw[hy,<-a1]⟩
 ·rw[o,h.rows,List.set_set]
end
section
variable {w1 w3 w0 wr:nS} {mb fb n c:Nat} {v lv rv tlv uv cv bv av ev:nU} {g:Gz} {V:List (nU×nU)} {L E:List (List It)} {T:List (List (Nat×Bool))} {CC:List (List AZ)} {base:List Nat} {P:List AH} {S:List Nat} {ED:List (Option AH×Edge)} {FR:List (nU×List It)} {FR0:List (List It)} {st n0:Nat} {p:Gz.Cr}
def Mk.cells{j l o t:nU}(h:Mk w1 w3 wr mb fb n c (.agg #[j,l,o,t]) lv rv tlv uv cv bv av ev g base P S ED FR) :
  (nQ wr (mb,0)=nJ j/\nQ wr (mb,1)=nJ l/\nQ wr (mb,2)=nJ o/\nQ wr (mb,3)=nJ t)/\nQ wr (mb,4)=nJ lv/\nQ wr (mb,5)=nJ rv/\nQ wr (mb,6)=nJ tlv/\nQ wr (mb,7)=nJ uv/\nQ wr (mb,8)=nJ cv/\nQ wr (mb,9)=nJ bv/\nQ wr (mb,10)=nJ av/\nQ wr (mb,11)=nJ ev/\nQ wr (mb,12)=nJ (nC (fb,0) n c):=by
 have i:=h.Ap.cell;exact⟨⟨i 0,i 1,i 2,i 3⟩,i 4,i 5,i 6,i 7,i 8,i 9,i 10,i 11,i 12⟩
def Dl.Lv{w:nS}{f:Nat->List Nat}(h:Dl A w v n f)(I:k<n):∃b off c i c2,v=nC (nJ ⟨b,off,nK⟩) n c/\(A b/\b<w.heap.size)/\nQ w ⟨b,off+k,nK⟩=nJ (nC i (f k).length c2)/\BX A w (nC i (f k).length c2) (f k):=by obtain⟨i,c,U,hn,hm,R⟩:=h;obtain⟨b,off,t,C,J,hx⟩:=R k I;obtain⟨x,j,l⟩:=hx 0 mR;obtain⟨o,c2,a0⟩:=l.shape;subst a0;refine⟨b,off,c,o,c2,by rw[U,t],⟨C,J⟩,?_,l⟩;rw[Nat.mul_one,Nat.add_zero]at j;exact j
def Jh.at_{w:nS}{m:Nat}{CC:List (List AZ)}(h:Jh A w m v n CC)(I:k<n):∃b off c i c2,v=nC (nJ ⟨b,off,nK⟩) n c/\(A b/\b<w.heap.size)/\nQ w ⟨b,off+k,nK⟩=nJ (nC i (CC.getD k []).length c2)/\DZ A w m (nC i (CC.getD k []).length c2) (CC.getD k []):=by obtain⟨i,c,U,hn,hm,R⟩:=h;obtain⟨b,off,t,C,J,hx⟩:=R k I;obtain⟨x,j,l⟩:=hx 0 mR;obtain⟨o,c2,a0,hh⟩:=id l;rw[a0]at j l;refine⟨b,off,c,o,c2,by rw[U,t],⟨C,J⟩,?_,l⟩;rw[Nat.mul_one,Nat.add_zero]at j;exact j
def DZ.at_{w:nS}{m:Nat}{C:Option Addr}{c:Nat}{l:List AZ}(h:DZ A w m (nC C n c) l){d:Nat}{x:AZ}(J:l[d]?=nJ x):∃b off,∃i:AH,C=nJ ⟨b,off,nK⟩/\(A b/\b<w.heap.size)/\nQ w ⟨b,off+d*3,nK⟩=nJ (nE nM (x.s:Nat))/\nQ w ⟨b,off+d*3+1,nK⟩=nJ i.v/\nQ w ⟨b,off+d*3+2,nK⟩=nJ (nI x.self)/\i.n=m/\IM A w i x.set:=by
 obtain⟨a1,a5⟩:=sG.1 J;have hg:l.getD d ⟨0,0,false⟩=x:=by rw[dG,J];rfl
 obtain⟨a4,c',hv,hn,hm,hr⟩:=h;cases hv
 obtain⟨b,off,a0,hb,a2,t⟩:=hr d a1;obtain⟨x0,h0,j⟩:=t 0 mR;obtain⟨x1,U,i,rfl,a3,R⟩:=t 1 mR;obtain⟨x2,I,o⟩:=t 2 mR;have j:x0=nE nM ((l.getD d ⟨0,0,false⟩).s:Nat):=j;have o:x2=nI (l.getD d ⟨0,0,false⟩).self:=o;rw[hg]at j R o;refine⟨b,off,i,a0,⟨hb,a2⟩,?_,U,?_,a3,R⟩
 ·rw[j]at h0;exact h0
 ·rw[o]at I;exact I
def O8(w1 w3 w0:nS)(mb fb n c:Nat)(v lv rv tlv uv cv bv:nU)(g:Gz)(base:List Nat)(S:List Nat)(FR0:List (List It))(st n0:Nat)(q:Gz.Cr)(e:Ending)(w':nS):Prop:=
 e=nP (.tuple #[])/\∃o t l i j,CZ w1 w3 w0 w' mb fb n c v lv rv tlv uv cv bv o t g base l S i j FR0 st n0 q
def CZ.X4(J:GN w1 v g)(h:CZ w1 w3 w0 wr mb fb n c v lv rv tlv uv cv bv av ev g base P S ED FR FR0 st n0 p)(R:st<FR0.length)(C:p.1<=100000)(hF:p.2.1.length<=100000)(k:Nat) :
  () 198 #[(mb,0),st,k] wr fun e w2=>e=nP (nE nM (Gz.Df p.1 p.2.1 k).1)/\∃o i l,CZ w1 w3 w0 w2 mb fb n c v lv rv tlv uv cv bv o ev g base i S ED l FR0 st n0 ((Gz.Df p.1 p.2.1 k).2.1,(Gz.Df p.1 p.2.1 k).2.2,p.2.2)/\AI w1 [253,254,305,307] wr w2/\∀(q:Option AH) (T:Nat),Cl wr (g.nt+1) P q T->Cl w2 (g.nt+1) i q T:=by
 obtain⟨U,I⟩:=h.row;refine(VB (s:=st) (k:=k) J h.Bw (by rw[h.len];exact C) I hF).mono ?_;intro e w2 j;have t:Gz.Df P.length p.2.1 k=Gz.Df p.1 p.2.1 k:=by rw[h.len]
 rw[t]at j;exact h.ended R j
def gQ(hs:PF w1 w3 mb fb v lv rv tlv uv cv g V L E T CC)(h7:Small L base)(h:CZ w1 w3 w0 wr mb fb n c v lv rv tlv uv cv bv av ev g base P S ED FR FR0 st n0 p)(ji:st<FR0.length)(h9:st<L.length){at_:Nat}(dn:x.1<=g.R.length)(hr:x.2<=1000000)(hq:g.GJ L E base T CC st at_ x p=nJ q)(kk:q.1<=100000)(km:q.2.1.length<=100000)(kn:q.2.2.length<=1000000) :
  Calls Tryz.prog 151 #[nF (nJ ⟨mb,0,nK⟩),nE nM st,nE nM at_,CH x] wr (O8 w1 w3 w0 mb fb n c v lv rv tlv uv cv bv g base S FR0 st n0 q):=by
 have gs:=TK hq;have kj:=hs.gn.fit.nt;obtain⟨AT,cT,AN,cN,AR,cR,rfl,-,-⟩:=hs.gn.open_;have HS:=Hd hs;have b3:=Hd h7;have fe:=Hd h;have HQ:=Hd hq;have g2:Hid (∀y:nS,Aj (XL mb fb w3.heap.size) w3 y->Dl (Sx mb fb w3.heap.size) y rv (g.R.length+1) g.right/\FY (Sx mb fb w3.heap.size) y (g.nt+1) tlv (g.R.length+1) T/\Dl (Sx mb fb w3.heap.size) y uv (g.top+1) g.CF/\Jh (Sx mb fb w3.heap.size) y (g.nt+1) cv (g.top+1) CC):=Hd (fun y o=>⟨hs.Hb.Ay o (fun b U=>U.no),hs.Jw.Ay o (fun b U=>U.no),hs.QJ.Ay o (fun b U=>U.no),hs.Va.Ay o (fun b U=>U.no)⟩)
 obtain⟨⟨z0,z1,z2,z3⟩,z4,z5,z6,z7,z8,z9,jx,ae,jy⟩:=h.Bw.cells;have ml:=h.Bw.Ap.lt;obtain⟨br,dq,cr,Ar,g6,jf,⟨gb,db⟩,ar,cx⟩:=hs.Hb.Lv (k:=x.1) mR;subst jf;obtain⟨t,l⟩:=x;simp only at ar cx dn hr;obtain⟨rl,ez⟩:∃b6,(g.right t).length=b6:=⟨_,rfl⟩
 have be:=Hd ez;rw[ez]at ar cx;have e9:Hid (∀y:nS,Aj (XL mb fb w3.heap.size) w3 y->nQ y ⟨br,dq+t,nK⟩=nJ (nC Ar rl g6)/\BX (Sx mb fb w3.heap.size) y (nC Ar rl g6) (g.right t)):=Hd (fun y o=>⟨(o.cell db gb.no _).trans ar,cx.Ay o (fun b U=>U.no)⟩);obtain⟨ar,cx⟩:=e9 wr h.Bw.Ay;have db:br<wr.heap.size:=AK db h.Bw.Ay.size;have cf:=Hd (Ah.new wr 256 #[nE nM t,nE nM l]);have f8:=Hd (DE wr (nO #[nE nM t,nE nM l] 256));have HG:=Hd gs;have kq:(t:Int)<((g.R.length+1:Nat):Int):=by omega
 have kr:(t:Int)<(g.R.length:Int)+1:=by omega
 unfold CH;clear hs h7 h hq gs cx ez z0 z1 z2 z3 z4 z6 z7 z8 z9 jx jy gb;unfold O8;go_enter func151,ntmps151
 go_upto_region 1 with fail
 have x0:=Ah.cell cf 0;have x1:=Ah.cell cf 1;have xl:=Ah.lt cf;simp at x0 x1 xl;go_quiet (fail)
 have a9:=Hd ((fe.later f8).later (w2:=(wr.alloc (nO #[nE nM t,nE nM l] 256)).drewN nq) ⟨rfl,rfl,rfl,AF _,fun _ _=>rfl⟩);have b5:Hid (Ah ((wr.alloc (nO #[nE nM t,nE nM l] 256)).drewN nq) wr.heap.size 256 #[nE nM t,nE nM l]):=Hd (cf.drewN nq);generalize (wr.alloc (nO #[nE nM t,nE nM l] 256)).drewN nq=W at *;generalize wr.heap.size=I at *;have k6:=Hd b5.lt;clear x0 x1 xl z5 ae ml ar db cf f8 fe;have x0:nQ W ⟨I,0,nK⟩=nJ (nE nM t):=Ah.cell b5 0;have x1:nQ W ⟨I,1,nK⟩=nJ (nE nM l):=Ah.cell b5 1
 have xl:=b5.lt;by_cases en:rl<=l
 ·have eo:((rl:Int)<=(l:Int)):=by omega
  have HE:Hid (q=p):=Hd (by have h:=HQ.out;unfold Gz.GJ at h;rw[if_pos (by rw[be.out];exact en)]at h;exact(Option.some.inj h).symm)
  clear en;go_wp2_with fail
  refine bodyPost_ret (results_none rfl _ _ _) rfl ?_;refine⟨rfl,av,ev,P,ED,FR,?_⟩;rw[HE.out];exact a9
 ·have eo:¬((rl:Int)<=(l:Int)):=by omega
  have es:l<rl:=by omega
  obtain⟨t0,au,gz⟩:∃t0,g.Hp L E base st (t,l)=nJ t0/\(if g.BK (g.next (t,l)) then g.F9 L E base st at_ (Gz.Gp T t l) (CC.getD (g.next (t,l)) []) (p.1,p.2.1,p.2.2++[⟨t0,at_,0,true⟩]) else nJ (p.1,p.2.1,p.2.2++[⟨t0,at_,0,true⟩]))=nJ q:=by
   have h:=HQ.out;unfold Gz.GJ at h;rw[if_neg (by rw[be.out];omega)]at h;split at h
   ·cases h
   ·rename_i t0 hd
    exact⟨t0,hd,h⟩
  have e8:=Hd gz;have fx:Hid (Calls Tryz.prog 194 #[nF (nJ ⟨mb,0,nK⟩),nE nM st,CH (t,l)] W.drew fun e w'=>e=nP (nE nM t0)/\Below W.heap.size W w'):=Hd (by
   have hm:=a9.Bw;obtain⟨⟨y0,y1,y2,y3⟩,y4,y5,y6,y7,y8,y9,jv,a2,jw⟩:=hm.cells;have hB:Bv W bv base:=G4 hm.FQ (by have h1:=b3.1;have h2:=HS.GC.len.1;have h3:=HS.GC.small;omega)
   refine(Tn (w:=W.drew) (A:=Sx mb fb w3.heap.size) (V:=V) (L:=L) (E:=E) (base:=base) (g:=g) y4 y5 y9 (HS.GC.later (hm.below.trans (((Below.refl _ W).drew).mono hm.below.size))) ((g2 W hm.Ay).1.Ay (X:=fun _=>False) ⟨rfl,rfl,rfl,AF _,fun _ _ _=>rfl⟩ (fun _ _=>id)) (hB.later ((Below.refl _ W).drew)) b3.1 dn (by rw[be.out];exact es) hr h9 au (NY b3 au)).mono ?_;rintro e w' ⟨rfl,h2⟩;exact⟨rfl,((Below.refl _ W).drew).trans h2⟩)
  have hd:=NY b3 au;obtain⟨Ae,ce,j7⟩:=CS a9.Bw.Ex;subst j7;have j6:ED.length<=1000000:=by have h1:=congrArg List.length a9.JG;rw[lM]at h1;have h2:=HG.2.2;omega
  obtain⟨ne,dj⟩:∃k,ED.length=k:=⟨_,rfl⟩
  have d4:=Hd dj;have ae:nQ W ⟨mb,11,nK⟩=nJ (nC Ae ne ce):=by rw[<-dj];exact a9.Bw.cells.2.2.2.2.2.2.2.2.1
  have ml:=a9.Bw.Ap.lt;rw[dj]at j6;have ir:=Hd a9.Bw.Ay.size;have d5:Hid (∀Y,Below W.heap.size W Y->nQ Y ⟨mb,11,nK⟩=nJ (nC Ae ne ce)/\nQ Y ⟨I,0,nK⟩=nJ (nE nM t)/\nQ Y ⟨I,1,nK⟩=nJ (nE nM l)):=Hd (fun Y o=>⟨(o.cell (p:=⟨mb,11,nK⟩) ml).trans ae,(o.cell (p:=⟨I,0,nK⟩) xl).trans x0,(o.cell (p:=⟨I,1,nK⟩) xl).trans x1⟩);unfold CH at fx;clear gz au dj HQ en;go_upto_region 3 with fail
  refine CO 15 (fun(v:nS)=>nQ v ⟨mb,11,nK⟩=nJ (nC Ae ne ce)/\nQ v ⟨I,0,nK⟩=nJ (nE nM t)/\nQ v ⟨I,1,nK⟩=nJ (nE nM l)) mU ?_;have i:(fun(v:nS)=>nQ v ⟨mb,11,nK⟩=nJ (nC Ae ne ce)/\nQ v ⟨I,0,nK⟩=nJ (nE nM t)/\nQ v ⟨I,1,nK⟩=nJ (nE nM l)) W.drew:=⟨ae,x0,x1⟩
  refine AG 0 i ?_;simp only[AD,AA];refine AG 1 i ?_;simp only[AD,AA];refine AG 2 i ?_;simp only[AD,AA];refine AG 3 i ?_;simp only[AD,AA];refine AG 4 i ?_;simp only[AD,AA];refine AG 5 i ?_;simp only[AD,AA];refine AG 6 i ?_;simp only[AD,AA];refine AG 7 i ?_;simp only[AD,AA];refine AG 9 i ?_;simp only[AD,AA];refine Be 8 mU rfl rfl (fun K j=>?_);go_simp;refine fx.mono ?_;rintro e w2 ⟨rfl,ao⟩;have f7:=Hd ao;have b7:Hid (Below W.heap.size W (w2.alloc (nO #[nE nM (t0:Nat),nE nM (at_:Nat),nF nK,nI true] 299))):=Hd (ao.alloc ao.size _)
  clear ao i;refine j _ _ (fun _=>d5 w2 f7) ?_;clear j K;have i:(fun(v:nS)=>nQ v ⟨mb,11,nK⟩=nJ (nC Ae ne ce)/\nQ v ⟨I,0,nK⟩=nJ (nE nM t)/\nQ v ⟨I,1,nK⟩=nJ (nE nM l)) w2:=d5 w2 f7;refine AG 10 i ?_;simp only[AD,AA];clear i;refine Be 11 mU rfl rfl (fun K j=>?_);go_simp;refine j _ _ (fun _=>d5 _ b7) ?_;clear j K;refine Co 12 mU rfl rfl rfl (fun K j=>?_);refine Dt O2 (.tmp 34) (.tmp 41) rfl (base:=w3.heap.size) (n:=ne) (m:=1) (N:=ne+1) (v:=nC Ae ne ce) (src:=nC (nJ ⟨w2.heap.size,0,nK⟩) 1 1) (xs:=ED.flatMap DB) (news:=DB (nK,⟨t0,at_,0,true⟩)) rfl rfl (AV (by have h:=a9.Bw.Ex;rw[d4.out]at h;exact h) b7) (Ba.Ap (c:=1) (cs:=DB (nK,⟨t0,at_,0,true⟩)) (Ah.new w2 299 _) rfl (fun u hu=>by unfold DB hV at hu;simp at hu;rcases hu with rfl|rfl|rfl|rfl<;>rfl)) rfl mW mR (by have:=ir.out;have:=b7.size;omega) ?_
  intro A4 c4 w4 q1 q2 q3;have d3:=Hd (a9.LI b7 (x:=(nK,⟨t0,at_,0,true⟩)) (A:=A4) (c2:=c4) rfl (by rw[d4.out];exact q1) q2);rw[d4.out]at d3;have e5:Hid (Ah w4 mb 253 _):=Hd (q2.Ap (a9.Bw.Ap.below b7 a9.Bw.Ap.lt) (.inr mT));have a2:nQ w4 ⟨mb,11,nK⟩=nJ (nC Ae ED.length ce):=Ah.cell e5 11;rw[d4.out]at a2;have yf:=Ah.frozen e5 11;have yl:=e5.lt;have g1:Hid (Ah w4 I 256 #[nE nM t,nE nM l]):=Hd (q2.Ap (b5.below b7 b5.lt) (.inr mT));have y0:nQ w4 ⟨I,0,nK⟩=nJ (nE nM t):=Ah.cell g1 0
  have y1:nQ w4 ⟨I,1,nK⟩=nJ (nE nM l):=Ah.cell g1 1;clear q1 q2 q3;refine j _ _ (fun _=>⟨a2,y0,y1⟩) ?_;clear j K;simp only[List.set_cons_succ,List.set_cons_zero];refine Be 13 mU rfl rfl (fun K j=>?_);go_simp;refine j _ _ (fun _=>⟨a2,y0,y1⟩) ?_;clear j K;refine Be 14 mU rfl rfl (fun K j=>?_);go_simp;refine j _ _ (fun _=>⟨a2,y0,y1⟩) ?_;clear j K;refine Be 15 mU rfl rfl (fun K j=>?_);go_simp;refine j _ _ (fun h=>absurd rfl h) ?_;clear j K;refine CI mU ?_ _;have ax:=Hd d3.1;have cd:Hid (Ah (w4.setCell ⟨mb,11,nK⟩ (nC A4 (ne+1) c4)) I 256 #[nE nM t,nE nM l]):=Hd (d3.2.Ap b5 (.inr mT))
  generalize w4.setCell ⟨mb,11,nK⟩ (nC A4 (ne+1) c4)=W5 at *;clear d3;clear y0 y1 a2 yf yl x0 x1 xl ae ml;obtain⟨ss,ad⟩:∃s,(g.right t)[l]?=nJ s:=⟨_,eG (by rw[be.out];exact es)⟩
  have h8:g.next (t,l)=ss:=by unfold Gz.next;rw[dG,ad];rfl
  have ko:ss<=g.top:=HS.gn.fit.Mn (mG ad);rw[h8]at e8;obtain⟨bS,oS,ix,k9,gd,bh⟩:=(e9 W5 ax.Bw.Ay).2.at_ ad;subst ix;have eb:Hid (∀y:nS,Below W5.heap.size W5 y->(nQ y ⟨mb,0,nK⟩=nJ (nC AT g.nt cT)/\nQ y ⟨mb,1,nK⟩=nJ (nC AN g.nn cN)/\nQ y ⟨mb,2,nK⟩=nJ (nC AR g.R.length cR)/\nQ y ⟨mb,3,nK⟩=nJ (nE nM g.s))/\nQ y ⟨I,0,nK⟩=nJ (nE nM t)/\nQ y ⟨I,1,nK⟩=nJ (nE nM l)/\nQ y ⟨bS,oS+l,nK⟩=nJ (nE nM ss)):=Hd (fun y o=>by have U:=cd.below o cd.lt;exact⟨(ax.Bw.later o).cells.1,U.cell 0,U.cell 1,(o.cell (p:=⟨bS,oS+l,nK⟩) gd).trans bh⟩)
  have cz:Hid (Below W5.heap.size W5 W5.drew):=Hd ((Below.refl _ W5).drew);have fm:=Hd (MD (HS.gn.later (ax.Bw.below.trans (cz.mono ax.Bw.below.size))) ss);have kp:(l:Int)<(rl:Int):=by omega
  have ij:=Hd ad;clear ad h8 bh gd;go_upto_region 4 with fail
  go_region_held3 (fun v=>(nQ v ⟨mb,0,nK⟩=nJ (nC AT g.nt cT)/\nQ v ⟨mb,1,nK⟩=nJ (nC AN g.nn cN)/\nQ v ⟨mb,2,nK⟩=nJ (nC AR g.R.length cR)/\nQ v ⟨mb,3,nK⟩=nJ (nE nM g.s))/\nQ v ⟨I,0,nK⟩=nJ (nE nM t)/\nQ v ⟨I,1,nK⟩=nJ (nE nM l)/\nQ v ⟨bS,oS+l,nK⟩=nJ (nE nM ss))
   (first|exact eb _ cz|exact eb _ bq)
   (first|(
        go_at_call 52;refine fm.mono ?_;rintro e w6 ⟨rfl,ga⟩
        have bq:=Hd (cz.trans ga);clear ga))
  cases cw:g.BK ss with
  | false=>
   have fl:=Hd cw;clear cw;have HE:Hid (q=(p.1,p.2.1,p.2.2++[⟨t0,at_,0,true⟩])):=Hd (by have h:=e8.out;rw[fl.out,if_neg mV]at h;exact(Option.some.inj h).symm)
   go_wp2_with fail
   refine bodyPost_ret (results_none rfl _ _ _) rfl ?_;refine⟨rfl,?_⟩;rw[HE.out];exact⟨_,_,_,_,_,ax.later bq⟩
  | true=>
   have fl:=Hd cw;have dw:Hid (g.F9 L E base st at_ (Gz.Gp T t l) (CC.getD ss []) (p.1,p.2.1,p.2.2++[⟨t0,at_,0,true⟩])=nJ q):=Hd (by have h:=e8.out;rw[cw,if_pos rfl]at h;exact h)
   clear cw;obtain⟨⟨tS,C⟩,f2⟩:∃dr,(T.getD t [])[l]?=nJ dr:=⟨_,eG (by rw[HS.Mv t dn,be.out];exact es)⟩
   have hf:Gz.Gp T t l=(tS,C):=by unfold Gz.Gp;rw[dG,f2];rfl
   rw[hf]at dw;obtain⟨bt,ot,ct,xt,jk,⟨j2,gh⟩,em,hg⟩:=HS.Jw.at_ (k:=t) mR;subst jk;obtain⟨b2,o2,d8,J,jm,⟨g9,ao⟩,he,dm,hn,f1⟩:=hg.at_ f2;subst jm;have hl:(T.getD t []).length=rl:=by rw[HS.Mv t dn,be.out]
   rw[hl]at em;have ed:Hid (∀y:nS,Aj (XL mb fb w3.heap.size) w3 y->(nQ y ⟨bt,ot+t,nK⟩=nJ (nC (nJ ⟨b2,o2,nK⟩) rl d8)/\nQ y ⟨b2,o2+l*2,nK⟩=nJ (nF (nJ ⟨J.h,0,nK⟩))/\nQ y ⟨b2,o2+l*2+1,nK⟩=nJ (nI C))/\AU y J tS/\bt<y.heap.size/\b2<y.heap.size):=Hd (fun y o=>⟨⟨(o.cell gh j2.no _).trans em,(o.cell ao g9.no _).trans he,(o.cell ao g9.no _).trans dm⟩,(f1.Ay o (fun b U=>U.no)).1,AK gh o.size,AK ao o.size⟩);have ip:=Hd hn;have k4:Hid (J.wb<w3.heap.size):=Hd f1.2.2.1;clear f2 hf hg em he dm f1 hn hl
   have c7:=Hd (ax.later bq);have al:=Hd (cd.below bq cd.lt);have f3:nQ w6 ⟨mb,6,nK⟩=nJ (nC (nJ ⟨bt,ot,nK⟩) (g.R.length+1) ct):=c7.Bw.cells.2.2.2.1;obtain⟨⟨k1,k2,k3⟩,_,aw,f4⟩:=ed w6 c7.Bw.Ay;have x0:nQ w6 ⟨I,0,nK⟩=nJ (nE nM t):=Ah.cell al 0;have x1:nQ w6 ⟨I,1,nK⟩=nJ (nE nM l):=Ah.cell al 1;have hv:=c7.Bw.Ap.lt;have jt:=al.lt;go_upto_region 5 with fail
   refine CO 13 (fun(v:nS)=>nQ v ⟨mb,6,nK⟩=nJ (nC (nJ ⟨bt,ot,nK⟩) (g.R.length+1) ct)/\nQ v ⟨I,0,nK⟩=nJ (nE nM t)/\nQ v ⟨I,1,nK⟩=nJ (nE nM l)/\nQ v ⟨bt,ot+t,nK⟩=nJ (nC (nJ ⟨b2,o2,nK⟩) rl d8)/\nQ v ⟨b2,o2+l*2,nK⟩=nJ (nF (nJ ⟨J.h,0,nK⟩))/\nQ v ⟨b2,o2+l*2+1,nK⟩=nJ (nI C)) mU ?_;have i:(fun(v:nS)=>nQ v ⟨mb,6,nK⟩=nJ (nC (nJ ⟨bt,ot,nK⟩) (g.R.length+1) ct)/\nQ v ⟨I,0,nK⟩=nJ (nE nM t)/\nQ v ⟨I,1,nK⟩=nJ (nE nM l)/\nQ v ⟨bt,ot+t,nK⟩=nJ (nC (nJ ⟨b2,o2,nK⟩) rl d8)/\nQ v ⟨b2,o2+l*2,nK⟩=nJ (nF (nJ ⟨J.h,0,nK⟩))/\nQ v ⟨b2,o2+l*2+1,nK⟩=nJ (nI C)) w6.drew:=⟨f3,x0,x1,k1,k2,k3⟩
   refine AG 0 i ?_;simp only[AD,AA];refine AG 1 i ?_;simp only[AD,AA];refine AG 2 i ?_;simp only[AD,AA];refine AG 3 i ?_;simp only[AD,AA];refine AG 4 i ?_;simp only[AD,AA];refine AG 5 i ?_;simp only[AD,AA];refine AG 6 i ?_;simp only[AD,AA];refine AG 7 i ?_;simp only[AD,AA];refine AG 8 i ?_;simp only[AD,AA];refine AG 9 i ?_;simp only[AD,AA];refine AG 10 i ?_;simp only[AD,AA];refine AG 11 i ?_;simp only[AD,AA];clear i;have ft:Hid (∀Y,Below w6.heap.size w6 Y->(fun(v:nS)=>nQ v ⟨mb,6,nK⟩=nJ (nC (nJ ⟨bt,ot,nK⟩) (g.R.length+1) ct)/\nQ v ⟨I,0,nK⟩=nJ (nE nM t)/\nQ v ⟨I,1,nK⟩=nJ (nE nM l)/\nQ v ⟨bt,ot+t,nK⟩=nJ (nC (nJ ⟨b2,o2,nK⟩) rl d8)/\nQ v ⟨b2,o2+l*2,nK⟩=nJ (nF (nJ ⟨J.h,0,nK⟩))/\nQ v ⟨b2,o2+l*2+1,nK⟩=nJ (nI C)) Y):=Hd (fun Y o=>by
    have U:=al.below o al.lt;exact⟨(o.cell (p:=⟨mb,6,nK⟩) hv).trans f3,U.cell 0,U.cell 1,(o.cell (p:=⟨bt,ot+t,nK⟩) aw).trans k1,(o.cell (p:=⟨b2,o2+l*2,nK⟩) f4).trans k2,(o.cell (p:=⟨b2,o2+l*2+1,nK⟩) f4).trans k3⟩)
   refine Be 12 mU rfl rfl (fun K j=>?_);go_simp;refine j _ _ (fun _=>ft _ (((Below.refl _ w6).alloc (AF _) _).drew)) ?_;clear j K;refine Be 13 mU rfl rfl (fun K j=>?_);go_simp;refine j _ _ (fun h=>absurd rfl h) ?_;clear j K;refine CI mU ?_ _;have du:Hid (Below w6.heap.size w6 ((w6.alloc (nO #[nF (nJ ⟨J.h,0,nK⟩),nI C] 287)).drew)):=Hd (((Below.refl _ w6).alloc (AF _) _).drew);have ca:Hid (Ah ((w6.alloc (nO #[nF (nJ ⟨J.h,0,nK⟩),nI C] 287)).drew) w6.heap.size 287 #[nF (nJ ⟨J.h,0,nK⟩),nI C]):=Hd (Ah.drew (Ah.new w6 287 _))
   have ay:=Hd (c7.later du);have d7:=Hd (al.below du al.lt);generalize (w6.alloc (nO #[nF (nJ ⟨J.h,0,nK⟩),nI C] 287)).drew=W7 at *;generalize w6.heap.size=tb at *;clear k1 k2 k3 aw f4 x0 x1 hv jt f3 c7 al ft d5 ax cd eb fm cz;have hw:nQ W7 ⟨tb,0,nK⟩=nJ (nF (nJ ⟨J.h,0,nK⟩)):=Ah.cell ca 0;have bi:nQ W7 ⟨tb,1,nK⟩=nJ (nI C):=Ah.cell ca 1;have hy:=ca.lt;obtain⟨nn,aq⟩:∃b,(!C&&tS==0)=b:=⟨_,rfl⟩
   have ie:=Hd aq;go_upto_region 6 with fail
   go_cut [10] (fun nv wx=>nv=nI nn/\wx=W7)
   case first=>
    cases C with
    | true=>
     have cp:nn=false:=by rw[<-aq];rfl
     subst cp;clear aq;go_wp2_with fail
     go_meet
     exact⟨rfl,rfl⟩
    | false=>
     obtain⟨qq,gl,eu,ew⟩:=QZ (ed W7 ay.Bw.Ay).2.1;have e6:=Hd gl;unfold AH.v at e6;clear gl;by_cases hz:tS=0
     ·have cp:nn=true:=by rw[<-aq,hz];rfl
      have jd:qq<0:=eu hz;subst cp;clear aq eu ew hz;go_wp2_with (go_at_call 195;refine e6.mono ?_;rintro e w8 ⟨rfl,rfl⟩)
      go_meet
      exact⟨rfl,rfl⟩
     ·have cp:nn=false:=by rw[<-aq];simp[hz]
      have jd:¬(qq<0):=by have:=ew hz;omega
      subst cp;clear aq eu ew hz;go_wp2_with (go_at_call 195;refine e6.mono ?_;rintro e w8 ⟨rfl,rfl⟩)
      go_meet
      exact⟨by rw[decide_eq_false (show ¬qq<0 by omega)],rfl⟩
   case rest=>
    obtain⟨rfl,rfl⟩:=hcut;clear aq hw bi;obtain⟨bc,oc,cc,Ac,g4,j5,⟨gf,ej⟩,dc,cm⟩:=HS.Va.at_ (k:=ss) mR;subst j5;obtain⟨CL,eh⟩:∃b6,CC.getD ss []=b6:=⟨_,rfl⟩
    rw[eh]at dc cm dw;have i4:Hid (∀c∈CL,c.s<=g.top):=Hd (fun c hc=>by
     rw[<-eh,dG]at hc;cases hq:CC[ss]? with
     | none=>rw[hq]at hc;cases hc
     | some b6=>rw[hq]at hc;exact HS.iD b6 (mG hq) c hc)
    obtain⟨lc,er⟩:∃k,CL.length=k:=⟨_,rfl⟩
    have e4:=Hd er;rw[er]at dc cm;have f9:Hid (∀y:nS,Aj (XL mb fb w3.heap.size) w3 y->nQ y ⟨bc,oc+ss,nK⟩=nJ (nC Ac lc g4)/\bc<y.heap.size/\DZ (Sx mb fb w3.heap.size) y (g.nt+1) (nC Ac lc g4) CL):=Hd (fun y o=>⟨(o.cell ej gf.no _).trans dc,AK ej o.size,cm.Ay o (fun b U=>U.no)⟩);have kh:lc<=1000000:=by obtain⟨_,_,_,_,hm,_⟩:=cm;rw[e4.out]at hm;exact hm
    clear dc cm ej gf eh er;have jn:nQ wc ⟨mb,8,nK⟩=nJ (nC (nJ ⟨bc,oc,nK⟩) (g.top+1) cc):=ay.Bw.cells.2.2.2.2.2.1;have x1:nQ wc ⟨I,1,nK⟩=nJ (nE nM l):=Ah.cell d7 1;obtain⟨k1,aw,-⟩:=f9 wc ay.Bw.Ay;have bh:nQ wc ⟨bS,oS+l,nK⟩=nJ (nE nM ss)/\bS<wc.heap.size:=by
     obtain⟨b',o',e,_,h1,h2⟩:=(e9 wc ay.Bw.Ay).2.at_ ij;cases e
     exact⟨h2,h1⟩
    obtain⟨bh,jc⟩:=bh;have jg:(ss:Int)<((g.top+1:Nat):Int):=by omega
    have jh:(ss:Int)<(g.top:Int)+1:=by omega
    have jq:=ay.Bw.Ap.lt;have ju:=d7.lt;go_upto_region 7 with fail
    go_quiet (fail)
    have ib:=Hd (ay.later (w2:=wc.drewN nq) ⟨rfl,rfl,rfl,AF _,fun _ _=>rfl⟩);have k5:Hid (Ah (wc.drewN nq) I 256 #[nE nM t,nE nM l]):=Hd (d7.drewN nq);have im:Hid (Ah (wc.drewN nq) tb 287 #[nF (nJ ⟨J.h,0,nK⟩),nI C]):=Hd (ca.drewN nq);generalize wc.drewN nq=W8 at *;clear jn x1 k1 aw bh jc jg jh jq ju hy ay d7 ca du bq;go_wp2_with fail
    go_loopg [89] lc (fun m jj wr=>∃(aa:Nat) (cg ef:nU) (P':List AH) (ds:List (Option AH×Edge)) (bm:List (nU×List It)) (p':Gz.Cr),Hid (m+aa=lc)/\aa<=lc/\jj=nE nM aa/\Hid (CZ w1 w3 w0 wr mb fb n c (.agg #[nC AT g.nt cT,nC AN g.nn cN,nC AR g.R.length cR,nE nM g.s]) lv (nC (nJ ⟨br,dq,nK⟩) (g.R.length+1) cr) (nC (nJ ⟨bt,ot,nK⟩) (g.R.length+1) ct) uv (nC (nJ ⟨bc,oc,nK⟩) (g.top+1) cc) bv cg ef g base P' S ds bm FR0 st n0 p')/\Hid (g.F9 L E base st at_ (tS,C) (CL.drop aa) p'=nJ q)/\Hid (AI w1.heap.size TT W8 wr))
    case atStart=>exact⟨0,_,_,_,_,_,_,Hd rfl,A0 _,rfl,ib,dw,Hd (AI.refl _ _ _)⟩
    case round=>
     obtain⟨aa,k7,k8,P1,jz,k0,p1,fk,hj,rfl,c8,dz,fg⟩:=hrel;rename nS=>w9
     by_cases gw:aa<lc
     ·have fj:=Hd gw
      obtain⟨⟨cs,bf,a4⟩,de⟩:∃x,CL[aa]?=nJ x:=⟨_,eG (by rw[e4.out];exact gw)⟩
      have kd:cs<=g.top:=i4 _ (mG de);obtain⟨bd,od,a7,iw,⟨j1,j0⟩,d0,d1,d2,gm,dd⟩:=(f9 w9 c8.Bw.Ay).2.2.at_ de;subst iw;simp only at d0 d2 dd;obtain⟨SS,ei⟩:∃x,(if a4 then bf|||tS else bf)=x:=⟨_,rfl⟩
      obtain⟨p3,gx,gy⟩:∃p3,g.Fx L E base st at_ SS (a4&&C) nn (g.CF cs) p1=nJ p3/\g.F9 L E base st at_ (tS,C) (CL.drop (aa+1)) p3=nJ q:=by
       have h:=dz.out;rw[IH de]at h;unfold Gz.F9 at h;simp only at h;rw[ei,ie.out]at h;split at h
       ·cases h
       ·rename_i p3 h3
        exact⟨p3,h3,h⟩
      have fp:=Hd gx;have fq:=Hd gy;have bx:Hid (AU w9 a7 bf/\a7.n=g.nt+1/\a7.wb<w3.heap.size):=Hd ⟨dd.1,gm,dd.2.2.1⟩;have aj:Hid (Ah (w9.alloc (nO #[nE nM cs,a7.v,nI a4] 301)) w9.heap.size 301 #[nE nM cs,a7.v,nI a4]):=Hd (Ah.new w9 301 _);have bo:=Hd (DE w9 (nO #[nE nM cs,a7.v,nI a4] 301));unfold AH.v at d1 aj bo;have fu:=Hd ei;clear de ei gx gy gm dd dz
      go_upto_if 96 with fail
      have c0:=Hd (c8.later bo);have e3:=Hd (fg.trans (AI.AJ bo));have dv:Hid (AU (w9.alloc (nO #[nE nM cs,nF (nJ ⟨a7.h,0,nK⟩),nI a4] 301)) a7 bf):=Hd (bx.1.later bo);generalize w9.alloc (nO #[nE nM cs,nF (nJ ⟨a7.h,0,nK⟩),nI a4] 301)=an at *;generalize w9.heap.size=cb at *;clear d0 d1 d2 j0 j1;have b4:=Hd (e3.Ap im (.inr mT));have b0:nQ an ⟨cb,0,nK⟩=nJ (nE nM cs):=Ah.cell aj 0;have b1:nQ an ⟨cb,1,nK⟩=nJ (nF (nJ ⟨a7.h,0,nK⟩)):=Ah.cell aj 1
      have iu:nQ an ⟨cb,2,nK⟩=nJ (nI a4):=Ah.cell aj 2;have bl:=aj.lt
      go_cut [13] (fun sv wx=>∃hh:AH,sv=nF (nJ ⟨hh.h,0,nK⟩)/\Hid (Cl wx (g.nt+1) P1 (nJ hh) SS)/\Hid (Below an.heap.size an wx))
      case first=>
       cases a4 with
       | false=>
        have ad:bf=SS:=by have:=fu.out;simpa using this
        go_wp2_with fail
        go_meet
        refine⟨a7,rfl,Hd ⟨by rw[<-ad];exact dv,bx.2.1,fun p hp=>?_⟩,Hd (Below.refl _ _)⟩;have h1:=(c0.Bw.new p hp).2;have h2:=bx.2.2;omega
       | true=>
        have ad:bf|||tS=SS:=by have:=fu.out;simpa using this
        have fy:=Hd (Wx dv);have hw:nQ an ⟨tb,0,nK⟩=nJ (nF (nJ ⟨J.h,0,nK⟩)):=Ah.cell b4 0;have hy:=b4.lt;unfold AH.v at fy;have ik:=Hd ad;clear ad;go_wp2_with (first
         | (
           go_at_call 196;refine fy.mono ?_;rintro e i0 ⟨tw,rfl,et,gu,ho,f0,da⟩
           have f6:=Hd da;have ec:=Hd (And.intro et (And.intro gu (And.intro ho f0)));have fo:=Hd (G7 f0 ((ed i0 (c0.later da).Bw.Ay).2.1) (by rw[ip.out,et,bx.2.1]));have ks:nQ i0 ⟨tb,0,nK⟩=nJ (nF (nJ ⟨J.h,0,nK⟩)):=Ah.cell (b4.below da b4.lt) 0;unfold AH.v at fo;clear da et gu ho f0)
         | (
           go_at_call 197;refine fo.mono ?_;rintro e jr ⟨rfl,h6,gj⟩
           have ih:=Hd h6;have i2:Hid (Below an.heap.size an jr):=Hd (f6.trans (gj.below f6.size (fun k hk e=>by have e2:k=tw.wb:=e;have:=ec.2.2.1;omega)));clear h6 gj))
        go_meet
        refine⟨tw,rfl,Hd ⟨by rw[<-ik.out];exact ih,by rw[ec.1];exact bx.2.1,fun p hp=>?_⟩,i2⟩;obtain⟨T',iz⟩:=c0.Bw.AP.mem hp;have h1:=iz.words.lt;have h2:=ec.2.2.1;omega
      case rest=>
       obtain⟨hh,rfl,fc,bp⟩:=hcut;rename nS=>ah
       have c6:=Hd (c0.later bp);have ff:=Hd (e3.trans (AI.AJ bp));have cy:=Hd (aj.below bp aj.lt);have fw:=Hd (b4.below bp b4.lt);clear b0 b1 iu bl c0 e3 aj b4 dv c8 fg bo;obtain⟨bu,ou,cu,Au,g7,jl,⟨gi,el⟩,df,dk⟩:=HS.QJ.Lv (k:=cs) mR;subst jl;obtain⟨RL,d9⟩:∃b6,g.CF cs=b6:=⟨_,rfl⟩
       have ig:Hid (∀k∈RL,k<g.R.length):=Hd (fun k hk=>by rw[<-d9]at hk;unfold Gz.CF at hk;exact List.mem_range.1 (List.mem_filter.1 hk).1);rw[d9]at df dk fp;obtain⟨lr,di⟩:∃k,RL.length=k:=⟨_,rfl⟩
       have fi:=Hd di;rw[di]at df dk;have fz:Hid (∀y:nS,Aj (XL mb fb w3.heap.size) w3 y->(nQ y ⟨bu,ou+cs,nK⟩=nJ (nC Au lr g7)/\bu<y.heap.size)/\BX (Sx mb fb w3.heap.size) y (nC Au lr g7) RL):=Hd (fun y o=>⟨⟨(o.cell el gi.no _).trans df,AK el o.size⟩,dk.Ay o (fun b U=>U.no)⟩);have ki:lr<=300:=by rw[<-di,<-d9];exact AY (Lh g cs) HS.gn.fit.nr
       clear df dk el gi d9 di;have z7:nQ ah ⟨mb,7,nK⟩=nJ (nC (nJ ⟨bu,ou,nK⟩) (g.top+1) cu):=c6.Bw.cells.2.2.2.2.1;obtain⟨⟨k1,aw⟩,-⟩:=fz ah c6.Bw.Ay;have b0:nQ ah ⟨cb,0,nK⟩=nJ (nE nM cs):=Ah.cell cy 0;have bl:=cy.lt;have jo:=c6.Bw.Ap.lt;have j3:(cs:Int)<((g.top+1:Nat):Int):=by omega
       have j4:(cs:Int)<(g.top:Int)+1:=by omega
       go_upto_region 14 with fail
       go_quiet (fail)
       have ia:=Hd (c6.later (w2:=ah.drewN nq) ⟨rfl,rfl,rfl,AF _,fun _ _=>rfl⟩);have ic:Hid (AI w1.heap.size TT W8 (ah.drewN nq)):=Hd (ff.drewN nq);have i3:Hid (Ah (ah.drewN nq) cb 301 #[nE nM cs,nF (nJ ⟨a7.h,0,nK⟩),nI a4]):=Hd (cy.drewN nq);have il:Hid (Ah (ah.drewN nq) tb 287 #[nF (nJ ⟨J.h,0,nK⟩),nI C]):=Hd (fw.drewN nq);have i9:Hid (Cl (ah.drewN nq) (g.nt+1) P1 (nJ hh) SS):=Hd (fc.later ⟨rfl,rfl,rfl,AF _,fun _ _=>rfl⟩);generalize ah.drewN nq=it at *;clear z7 k1 aw b0 bl jo j3 j4 c6 ff cy fw fc bp
       go_wp2_with fail
       go_loopg [113] lr (fun m ii wr=>∃(a3:Nat) (cg ef:nU) (P':List AH) (ds:List (Option AH×Edge)) (bm:List (nU×List It)) (p':Gz.Cr),Hid (m+a3=lr)/\a3<=lr/\ii=nE nM a3/\Hid (CZ w1 w3 w0 wr mb fb n c (.agg #[nC AT g.nt cT,nC AN g.nn cN,nC AR g.R.length cR,nE nM g.s]) lv (nC (nJ ⟨br,dq,nK⟩) (g.R.length+1) cr) (nC (nJ ⟨bt,ot,nK⟩) (g.R.length+1) ct) (nC (nJ ⟨bu,ou,nK⟩) (g.top+1) cu) (nC (nJ ⟨bc,oc,nK⟩) (g.top+1) cc) bv cg ef g base P' S ds bm FR0 st n0 p')/\Hid (g.Fx L E base st at_ SS (a4&&C) nn (RL.drop a3) p'=nJ p3)/\Hid (AI w1.heap.size TT it wr)/\Hid (Cl wr (g.nt+1) P' (nJ hh) SS))
       case atStart=>exact⟨0,_,_,_,_,_,_,Hd rfl,A0 _,rfl,ia,fp,Hd (AI.refl _ _ _),i9⟩
       case round=>
        obtain⟨a3,g3,eg,P2,af,f5,R,ba,hi,rfl,ak,dy,b8,fd⟩:=hrel;rename nS=>ai
        by_cases gv:a3<lr
        ·obtain⟨k,hk⟩:∃x,RL[a3]?=nJ x:=⟨_,eG (by rw[fi.out];exact gv)⟩
         have kg:=ig k (mG hk);obtain⟨bk,ok,iy,kb,ka,kc⟩:=(fz ai ak.Bw.Ay).2.at_ hk;subst iy;have gq:=IH hk;have dx:=Hd dy;rw[gq]at dx;clear hk gq dy;obtain⟨cj,dp,ee,i1,iv,h5,⟨gg,ek⟩,gp,je⟩:=HS.Hb.Lv (k:=k) mR;have fs:Hid (∀y:nS,Aj (XL mb fb w3.heap.size) w3 y->nQ y ⟨cj,dp+k,nK⟩=nJ (nC i1 (g.right k).length iv)/\cj<y.heap.size):=Hd (fun y o=>⟨(o.cell ek gg.no _).trans gp,AK ek o.size⟩);have e1:cj=br/\dp=dq/\ee=cr:=by cases h5;exact⟨rfl,rfl,rfl⟩
         obtain⟨rfl,rfl,rfl⟩:=e1;clear h5 gp je ek gg;obtain⟨kl,ep⟩:∃x,(g.right k).length=x:=⟨_,rfl⟩
         rw[ep]at fs;have fh:=Hd ep;clear ep;have z5:nQ ai ⟨mb,5,nK⟩=nJ (nC (nJ ⟨cj,dp,nK⟩) (g.R.length+1) ee):=ak.Bw.cells.2.2.1;obtain⟨k1,aw⟩:=fs ai ak.Bw.Ay;have ja:(k:Int)<((g.R.length+1:Nat):Int):=by omega
         have jb:(k:Int)<(g.R.length:Int)+1:=by omega
         have kf:(a3:Int)<(lr:Int):=by omega
         obtain⟨r0,p4,ar,ey⟩:∃(r0:Nat) (p4:Nat×List It),((kl=0/\r0=(Gz.Df R.1 R.2.1 k).1/\p4=(Gz.Df R.1 R.2.1 k).2)\/(kl≠0/\g.Hp L E base st (k,0)=nJ r0/\p4=(R.1,R.2.1)))/\g.Fx L E base st at_ SS (a4&&C) nn (RL.drop (a3+1)) (p4.1,p4.2,if nn then R.2.2 else R.2.2++[⟨r0,at_,SS,a4&&C⟩])=nJ p3:=by
          have h:=dx.out;unfold Gz.Fx at h;rw[fh.out]at h;cases kl with
          | zero=>exact⟨_,_,.inl ⟨rfl,rfl,rfl⟩,h⟩
          | succ kl=>
            simp only at h;split at h
            ·cases h
            ·rename_i t1 dm
             exact⟨t1,(R.1,R.2.1),.inr ⟨Nat.succ_ne_zero _,dm,rfl⟩,h⟩
         have fr:=Hd ar;have e7:=Hd ey;have dg:=Mg _ _ _ ey;have dh:=Nu _ _ _ fq;have hb:p4.1<=100000/\p4.2.length<=100000:=by have h1:=dg.1;have h2:=dg.2.1;have h3:=dh.1;have h4:=dh.2.1;simp only at h1 h2;omega
         have gr:(if nn then R.2.2 else R.2.2++[(⟨r0,at_,SS,a4&&C⟩:Edge)]).length<=1000000:=by have h1:=dg.2.2;have h2:=dh.2.2;simp only at h1;omega
         have fv:=Hd (And.intro hb gr);have b9:=Hd gv;clear ar ey dg dh hb gr dx
         go_upto_if 125 with fail
         go_cut [16] (fun tv wx=>∃(cg:nU) (P':List AH) (bm:List (nU×List It)),tv=nE nM r0/\Hid (CZ w1 w3 w0 wx mb fb n c (.agg #[nC AT g.nt cT,nC AN g.nn cN,nC AR g.R.length cR,nE nM g.s]) lv (nC (nJ ⟨cj,dp,nK⟩) (g.R.length+1) ee) (nC (nJ ⟨bt,ot,nK⟩) (g.R.length+1) ct) (nC (nJ ⟨bu,ou,nK⟩) (g.top+1) cu) (nC (nJ ⟨bc,oc,nK⟩) (g.top+1) cc) bv cg eg g base P' S af bm FR0 st n0 (p4.1,p4.2,R.2.2))/\Hid (AI w1.heap.size TT ai wx)/\Hid (Cl wx (g.nt+1) P' (nJ hh) SS))
         case first=>
          by_cases cn:kl=0
          · obtain⟨rfl,rfl⟩:r0=(Gz.Df R.1 R.2.1 k).1/\p4=(Gz.Df R.1 R.2.1 k).2:=by
             rcases fr.out with h|h
             ·exact h.2
             ·exact absurd cn h.1
            have j9:((kl:Int)==0)=true:=by rw[cn];rfl
            have hz:=fv.1;have eo:=N2 R.1 R.2.1 k;have i7:=Hd (ak.X4 HS.gn ji mR mR k);clear hz eo;clear cn;go_wp2_with (
               go_at_call 198;refine i7.mono ?_;rintro e js ⟨rfl,ch,P3,bn,h1,h2,h3⟩
               have H1:=Hd h1;have H2:=Hd h2;have H3:=Hd h3;clear h1 h2 h3)
            go_meet
            exact⟨ch,P3,bn,rfl,H1,Hd (H2.mono (AF _) (fun dr J=>by simp at J;rcases J with rfl|rfl|rfl|rfl<;>decide)),Hd (H3 _ _ fd)⟩
          · obtain⟨au,rfl⟩:g.Hp L E base st (k,0)=nJ r0/\p4=(R.1,R.2.1):=by
             rcases fr.out with h|h
             ·exact absurd h.1 cn
             ·exact h.2
            have j9:((kl:Int)==0)=false:=by rw[bN];omega
            have iq:Hid (Calls Tryz.prog 194 #[nF (nJ ⟨mb,0,nK⟩),nE nM st,.agg #[nE nM k,nE nM 0]] ai fun e w'=>e=nP (nE nM r0)/\Below ai.heap.size ai w'):=Hd (by
             have hm:=ak.Bw;obtain⟨⟨y0,y1,y2,y3⟩,y4,y5,y6,y7,y8,y9,jv,a2,jw⟩:=hm.cells;have hB:Bv ai bv base:=G4 hm.FQ (by have h1:=b3.1;have h2:=HS.GC.len.1;have h3:=HS.GC.small;omega)
             exact Tn (A:=Sx mb fb w3.heap.size) (V:=V) (L:=L) (E:=E) (base:=base) (g:=g) (x:=(k,0)) y4 y5 y9 (HS.GC.later hm.below) (g2 ai hm.Ay).1 hB b3.1 (by simp only;omega) (by simp only;rw[fh.out];omega) mV h9 au (NY b3 au))
            clear cn au;go_wp2_with (
               go_at_call 194;refine iq.mono ?_;rintro e js ⟨rfl,g8⟩
               have dt:=Hd g8;clear g8)
            go_meet
            exact⟨g3,P2,f5,rfl,Hd (ak.later dt),Hd (AI.AJ dt),Hd (fd.later dt)⟩
         case rest=>
          obtain⟨ch,P3,bn,rfl,a8,c9,bz⟩:=hcut;rename nS=>a0
          clear z5 k1 aw ja jb;cases nn with
          | true=>
            go_wp2_with fail
            go_roundg (lr-(a3+1))
            case measure=>have:=ba.out;omega
            case rel=>exact⟨a3+1,ch,eg,P3,af,bn,(p4.1,p4.2,R.2.2),Hd (by have:=ba.out;have:=b9.out;omega),by have:=b9.out;omega,mY,a8,e7,Hd (b8.trans c9),bz⟩
          | false=>
            have bw:=Hd ((b8.trans c9).Ap i3 (.inr mT));have d6:=Hd ((b8.trans c9).Ap il (.inr mT));obtain⟨a5,a6,j8⟩:=CS a8.Bw.Ex;subst j8;obtain⟨a1,cq⟩:∃k,af.length=k:=⟨_,rfl⟩
            have bb:=Hd cq;have ke:a1<=1000000:=by have h1:=fv.2;have h2:=congrArg List.length a8.JG;rw[lM,cq]at h2;simp only[Bool.false_eq_true,if_false,BS,List.length_singleton]at h1 h2;omega
            have ae:nQ a0 ⟨mb,11,nK⟩=nJ (nC a5 a1 a6):=by rw[<-cq];exact a8.Bw.cells.2.2.2.2.2.2.2.2.1
            have fa:Hid (a0.ownsRow w3.heap.size 299 4 (nC a5 a1 a6) a1 (af.flatMap DB)):=Hd (by have h:=a8.Bw.Ex;rw[cq]at h;exact h);have ht:=a8.Bw.Ap.lt;have g5:=bw.lt;have hx:=d6.lt;have bi:nQ a0 ⟨tb,1,nK⟩=nJ (nI C):=Ah.cell d6 1;have g0:=Hd a8.Bw.Ay.size;clear cq;cases a4 with
            | true=>
             have cl:nQ a0 ⟨cb,2,nK⟩=nJ (nI true):=Ah.cell bw 2;have ea:Hid (∀Y,Below a0.heap.size a0 Y->(fun(v:nS)=>nQ v ⟨mb,11,nK⟩=nJ (nC a5 a1 a6)/\nQ v ⟨cb,2,nK⟩=nJ (nI true)/\nQ v ⟨tb,1,nK⟩=nJ (nI C)) Y):=Hd (fun Y o=>⟨(o.cell (p:=⟨mb,11,nK⟩) ht).trans ae,(o.cell (p:=⟨cb,2,nK⟩) g5).trans cl,(o.cell (p:=⟨tb,1,nK⟩) hx).trans bi⟩);go_upto_region 22 with fail
             refine CO 19 (fun(v:nS)=>nQ v ⟨mb,11,nK⟩=nJ (nC a5 a1 a6)/\nQ v ⟨cb,2,nK⟩=nJ (nI true)/\nQ v ⟨tb,1,nK⟩=nJ (nI C)) mU ?_;have i:(fun(v:nS)=>nQ v ⟨mb,11,nK⟩=nJ (nC a5 a1 a6)/\nQ v ⟨cb,2,nK⟩=nJ (nI true)/\nQ v ⟨tb,1,nK⟩=nJ (nI C)) a0.drew:=⟨ae,cl,bi⟩
             refine AG 0 i ?_;simp only[AD,AA];refine AG 1 i ?_;simp only[AD,AA];refine AG 2 i ?_;simp only[AD,AA];refine AG 3 i ?_;simp only[AD,AA];refine AG 4 i ?_;simp only[AD,AA];refine AG 5 i ?_;simp only[AD,AA];refine AG 6 i ?_;simp only[AD,AA];refine AG 7 i ?_;simp only[AD,AA];refine AG 8 i ?_;simp only[AD,AA];refine AG 9 i ?_;simp only[AD,AA];refine AG 10 i ?_;simp only[AD,AA];refine AG 11 i ?_;simp only[AD,AA];refine AG 12 i ?_;simp only[AD,AA]
             refine AG 13 i ?_;simp only[AD,AA];refine AG 14 i ?_;simp only[AD,AA];clear i;refine Be 15 mU rfl rfl (fun K j=>?_);go_simp;refine j _ _ (fun _=>ea _ (((Below.refl _ a0).alloc (AF _) _).drew)) ?_;clear j K;refine Co 16 mU rfl rfl rfl (fun K j=>?_);refine Dt O2 (.tmp 141) (.tmp 152) rfl (base:=w3.heap.size) (n:=a1) (m:=1) (N:=a1+1) (v:=nC a5 a1 a6) (src:=nC (nJ ⟨a0.heap.size,0,nK⟩) 1 1) (xs:=af.flatMap DB) (news:=DB (nJ hh,⟨r0,at_,SS,true&&C⟩)) rfl rfl (AV (fa.alloc _) ((Below.refl _ _).drew)) (Ba.Ap (c:=1) (cs:=DB (nJ hh,⟨r0,at_,SS,true&&C⟩)) (Ah.drew (Ah.new a0 299 _)) rfl (fun u hu=>by unfold DB hV AH.v at hu;simp at hu;rcases hu with rfl|rfl|rfl|rfl<;>rfl)) rfl mW mR (by have:=g0.out;simp;omega) ?_
             intro bj ck ab q1 q2 q3;have ag:=Hd (a8.LI (((Below.refl _ a0).alloc (AF _) (nO #[nE nM (r0:Nat),nE nM (at_:Nat),nF (nJ ⟨hh.h,0,nK⟩),nI (true&&C)] 299)).drew) (x:=(nJ hh,⟨r0,at_,SS,true&&C⟩)) (A:=bj) (c2:=ck) bz (by rw[bb.out];exact q1) q2);rw[bb.out]at ag;have az:Hid (Ah ab mb 253 _):=Hd (q2.Ap (Ah.drew (a8.Bw.Ap.alloc _)) (.inr mT));have a2:nQ ab ⟨mb,11,nK⟩=nJ (nC a5 af.length a6):=Ah.cell az 11;rw[bb.out]at a2;have yf:=Ah.frozen az 11;have yl:=az.lt
             have y2:nQ ab ⟨cb,2,nK⟩=nJ (nI true):=Ah.cell (q2.Ap (Ah.drew (bw.alloc _)) (.inr mT)) 2;have y3:nQ ab ⟨tb,1,nK⟩=nJ (nI C):=Ah.cell (q2.Ap (Ah.drew (d6.alloc _)) (.inr mT)) 1;have e0:Hid (Cl (ab.setCell ⟨mb,11,nK⟩ (nC bj (a1+1) ck)) (g.nt+1) P3 (nJ hh) SS):=Hd (bz.keeps ag.2 mT mT);clear q1 q2 q3;refine j _ _ (fun _=>⟨a2,y2,y3⟩) ?_;clear j K;simp only[List.set_cons_succ,List.set_cons_zero];refine Be 17 mU rfl rfl (fun K j=>?_);go_simp;refine j _ _ (fun _=>⟨a2,y2,y3⟩) ?_
             clear j K;refine Be 18 mU rfl rfl (fun K j=>?_);go_simp;refine j _ _ (fun _=>⟨a2,y2,y3⟩) ?_;clear j K;refine Be 19 mU rfl rfl (fun K j=>?_);go_simp;refine j _ _ (fun h=>absurd rfl h) ?_;clear j K;refine CI mU ?_ _;go_wp2_with fail
             go_roundg (lr-(a3+1))
             case measure=>have:=ba.out;omega
             case rel=>exact⟨a3+1,ch,_,P3,_,bn,_,Hd (by have:=ba.out;have:=b9.out;omega),by have:=b9.out;omega,mY,Hd ag.1,e7,Hd ((b8.trans c9).trans (ag.2.mono (AF _) (fun dr J=>by simp at J;rcases J with rfl|rfl<;>decide))),e0⟩
            | false=>
             have cl:nQ a0 ⟨cb,2,nK⟩=nJ (nI false):=Ah.cell bw 2;have ea:Hid (∀Y,Below a0.heap.size a0 Y->(fun(v:nS)=>nQ v ⟨mb,11,nK⟩=nJ (nC a5 a1 a6)/\nQ v ⟨cb,2,nK⟩=nJ (nI false)/\nQ v ⟨tb,1,nK⟩=nJ (nI C)) Y):=Hd (fun Y o=>⟨(o.cell (p:=⟨mb,11,nK⟩) ht).trans ae,(o.cell (p:=⟨cb,2,nK⟩) g5).trans cl,(o.cell (p:=⟨tb,1,nK⟩) hx).trans bi⟩);go_upto_region 22 with fail
             refine CO 19 (fun(v:nS)=>nQ v ⟨mb,11,nK⟩=nJ (nC a5 a1 a6)/\nQ v ⟨cb,2,nK⟩=nJ (nI false)/\nQ v ⟨tb,1,nK⟩=nJ (nI C)) mU ?_;have i:(fun(v:nS)=>nQ v ⟨mb,11,nK⟩=nJ (nC a5 a1 a6)/\nQ v ⟨cb,2,nK⟩=nJ (nI false)/\nQ v ⟨tb,1,nK⟩=nJ (nI C)) a0.drew:=⟨ae,cl,bi⟩
             refine AG 0 i ?_;simp only[AD,AA];refine AG 1 i ?_;simp only[AD,AA];refine AG 2 i ?_;simp only[AD,AA];refine AG 3 i ?_;simp only[AD,AA];refine AG 4 i ?_;simp only[AD,AA];refine AG 5 i ?_;simp only[AD,AA];refine AG 6 i ?_;simp only[AD,AA];refine AG 7 i ?_;simp only[AD,AA];refine AG 8 i ?_;simp only[AD,AA];refine AG 9 i ?_;simp only[AD,AA];refine AG 10 i ?_;simp only[AD,AA];refine JI 11 rfl mU mU mU mU (fun _ _ _ h=>h) (Or.inr ⟨nB,rfl⟩) i rfl ?rf11
             simp only[List.set_cons_succ,List.set_cons_zero];refine JI 12 rfl mU mU mU mU (fun _ _ _ h=>h) (Or.inr ⟨nB,rfl⟩) i rfl ?rf12;simp only[List.set_cons_succ,List.set_cons_zero];refine AG 13 i ?_;simp only[AD,AA];refine AG 14 i ?_;simp only[AD,AA];clear i;refine Be 15 mU rfl rfl (fun K j=>?_);go_simp;refine j _ _ (fun _=>ea _ (((Below.refl _ a0).alloc (AF _) _).drew)) ?_;clear j K;refine Co 16 mU rfl rfl rfl (fun K j=>?_);refine Dt O2 (.tmp 141) (.tmp 152) rfl (base:=w3.heap.size) (n:=a1) (m:=1) (N:=a1+1) (v:=nC a5 a1 a6) (src:=nC (nJ ⟨a0.heap.size,0,nK⟩) 1 1) (xs:=af.flatMap DB) (news:=DB (nJ hh,⟨r0,at_,SS,false&&C⟩)) rfl rfl (AV (fa.alloc _) ((Below.refl _ _).drew)) (Ba.Ap (c:=1) (cs:=DB (nJ hh,⟨r0,at_,SS,false&&C⟩)) (Ah.drew (Ah.new a0 299 _)) rfl (fun u hu=>by unfold DB hV AH.v at hu;simp at hu;rcases hu with rfl|rfl|rfl|rfl<;>rfl)) rfl mW mR (by have:=g0.out;simp;omega) ?_
             intro bj ck ab q1 q2 q3;have ag:=Hd (a8.LI (((Below.refl _ a0).alloc (AF _) (nO #[nE nM (r0:Nat),nE nM (at_:Nat),nF (nJ ⟨hh.h,0,nK⟩),nI (false&&C)] 299)).drew) (x:=(nJ hh,⟨r0,at_,SS,false&&C⟩)) (A:=bj) (c2:=ck) bz (by rw[bb.out];exact q1) q2);rw[bb.out]at ag;have az:Hid (Ah ab mb 253 _):=Hd (q2.Ap (Ah.drew (a8.Bw.Ap.alloc _)) (.inr mT));have a2:nQ ab ⟨mb,11,nK⟩=nJ (nC a5 af.length a6):=Ah.cell az 11;rw[bb.out]at a2;have yf:=Ah.frozen az 11;have yl:=az.lt
             have y2:nQ ab ⟨cb,2,nK⟩=nJ (nI false):=Ah.cell (q2.Ap (Ah.drew (bw.alloc _)) (.inr mT)) 2;have y3:nQ ab ⟨tb,1,nK⟩=nJ (nI C):=Ah.cell (q2.Ap (Ah.drew (d6.alloc _)) (.inr mT)) 1;have e0:Hid (Cl (ab.setCell ⟨mb,11,nK⟩ (nC bj (a1+1) ck)) (g.nt+1) P3 (nJ hh) SS):=Hd (bz.keeps ag.2 mT mT);clear q1 q2 q3;refine j _ _ (fun _=>⟨a2,y2,y3⟩) ?_;clear j K;simp only[List.set_cons_succ,List.set_cons_zero];refine Be 17 mU rfl rfl (fun K j=>?_);go_simp;refine j _ _ (fun _=>⟨a2,y2,y3⟩) ?_
             clear j K;refine Be 18 mU rfl rfl (fun K j=>?_);go_simp;refine j _ _ (fun _=>⟨a2,y2,y3⟩) ?_;clear j K;refine Be 19 mU rfl rfl (fun K j=>?_);go_simp;refine j _ _ (fun h=>absurd rfl h) ?_;clear j K;refine CI mU ?_ _;go_wp2_with fail
             go_roundg (lr-(a3+1))
             case measure=>have:=ba.out;omega
             case rel=>exact⟨a3+1,ch,_,P3,_,bn,_,Hd (by have:=ba.out;have:=b9.out;omega),by have:=b9.out;omega,mY,Hd ag.1,e7,Hd ((b8.trans c9).trans (ag.2.mono (AF _) (fun dr J=>by simp at J;rcases J with rfl|rfl<;>decide))),e0⟩
        ·obtain rfl:a3=lr:=by omega
         have i5:Hid (R=p3):=Hd (by have h:=dy.out;rw[List.drop_eq_nil_of_le (by rw[fi.out];exact AF _)]at h;unfold Gz.Fx at h;exact Option.some.inj h)
         rw[i5.out]at ak;go_wp2_with fail
         go_roundg (lc-(aa+1))
         case measure=>have:=fk.out;omega
         case rel=>exact⟨aa+1,g3,eg,P2,af,f5,p3,Hd (by have:=fk.out;have:=fj.out;omega),by have:=fj.out;omega,mY,ak,fq,Hd (ic.trans b8)⟩
     ·obtain rfl:aa=lc:=by omega
      have i6:Hid (p1=q):=Hd (by have h:=dz.out;rw[List.drop_eq_nil_of_le (by rw[e4.out];exact AF _)]at h;unfold Gz.F9 at h;exact Option.some.inj h)
      rw[i6.out]at c8;go_wp2_with fail
      go_end0
      exact⟨rfl,_,_,_,_,_,c8⟩
end
section
variable {w1 w3 wr:nS} {mb fb n c:Nat} {v lv rv tlv uv cv bv av ev:nU} {g:Gz} {base:List Nat} {P:List AH} {S:List Nat} {ED:List (Option AH×Edge)} {FR:List (nU×List It)}
def Mk.bI(h:Mk w1 w3 wr mb fb n c v lv rv tlv uv cv bv av ev g base P S ED FR){p:AH}(j:P[i]?=nJ p){q:Option AH}{T:Nat}(I:Cl wr (g.nt+1) P q T) :
  () 197 #[p.v,hV q] wr fun e w'=>e=nP (nI ((S.getD i 0|||T) != S.getD i 0))/\Mk w1 w3 w' mb fb n c v lv rv tlv uv cv bv av ev g base P (S.set i (S.getD i 0|||T)) ED FR/\Aj (XP P) wr w':=by
 have C:=h.AP.at_ i p j;have hn:=h.AP.room p (mG j);cases q with
 | none=>
  have R:T=0:=I;subst R;refine(or_nil C).mono ?_;rintro e w' ⟨rfl,rfl⟩;rw[Nat.or_zero];have U:S.set i (S.getD i 0)=S:=by have l:=(sG.1 j).1;rw[h.AP.len]at l;rw[dG,eG l];exact List.set_getElem_self l
  rw[U];exact⟨mV,h,Aj.refl _ _⟩
 | some s=>obtain⟨a,b,d⟩:=I;refine(G7 C a (by rw[b,hn])).mono ?_;rintro e w' ⟨rfl,J,o⟩;have t:Aj (XP P) wr w':=o.one (mG j);exact⟨rfl,h.LA t (h.AP.EL j J o),t⟩
def Mk.UT(h:Mk w1 w3 wr mb fb n c v lv rv tlv uv cv bv av ev g base P S ED FR){j:Nat}{p q:AH}(l:P[i]?=nJ p)(C:P[j]?=nJ q) :
  () 197 #[p.v,q.v] wr fun e w'=>e=nP (nI ((S.getD i 0|||S.getD j 0) != S.getD i 0))/\Mk w1 w3 w' mb fb n c v lv rv tlv uv cv bv av ev g base P (S.set i (S.getD i 0|||S.getD j 0)) ED FR/\Aj (XP P) wr w':=by
 have R:=h.AP.room p (mG l);have J:=h.AP.room q (mG C);refine(G7 (h.AP.at_ i p l) (h.AP.at_ j q C) (by rw[R,J])).mono ?_;rintro e w' ⟨rfl,I,o⟩;have t:Aj (XP P) wr w':=o.one (mG l);exact⟨rfl,h.LA t (h.AP.EL l I o),t⟩
def Of(mb:Nat)(f:Nat->nU):Act:={tmps:=#[nF (nJ ⟨mb,0,nK⟩),f 1,f 2,f 3,f 4,f 5,f 6,f 7,f 8,f 9,f 10,f 11,f 12,f 13,f 14,f 15,f 16,f 17,f 18,f 19,f 20,f 21,f 22,f 23,f 24,f 25,f 26,f 27,f 28,f 29,f 30,f 31,f 32,f 33,f 34,f 35,f 36,f 37,f 38,f 39,f 40,f 41,f 42,f 43,f 44,f 45,f 46,f 47,f 48,f 49,f 50,f 51,f 52,f 53,f 54,f 55,f 56,f 57,f 58,f 59,f 60,f 61],defers:=[]}
def eE(h:Mk w1 w3 wr mb fb n c v lv rv tlv uv cv bv av ev g base P S ED FR)(bz:∀e∈ED.map (·.2),e.dst<P.length/\e.at_<P.length)(hv:∃x0 x1 x2 x3,v=.agg #[x0,x1,x2,x3])(hP:P.length<=1000000)(hE:ED.length<=1000000){f:Nat}{Sf:List Nat}(hf:Gz.Hh (ED.map (·.2)) f S=nJ Sf) :
  () 152 #[(mb,0)] wr fun e w'=>e=nP (.tuple #[])/\Mk w1 w3 w' mb fb n c v lv rv tlv uv cv bv av ev g base P Sf ED FR:=by
 obtain⟨x0,x1,x2,x3,rfl⟩:=hv;obtain⟨Ae,ce,cu⟩:=CS h.Ex;obtain⟨Aa,R,ct⟩:=CS h.all;subst cu;subst ct;have HM:=Hd h;have HF:=Hd hf;have ch:=Hd bz;clear h hf bz;go_enter func152,ntmps152
 go_wp2;refine Vd 0 (fun m a' w'=>∃S',Hid (Mk w1 w3 w' mb fb n c (.agg #[x0,x1,x2,x3]) lv rv tlv uv cv bv (nC Aa P.length R) (nC Ae ED.length ce) g base P S' ED FR)/\Hid (Gz.Hh (ED.map (·.2)) m S'=nJ Sf)/\a'=Of mb (fun cz=>a'.tmps.getD cz undef)) rfl ?pass ?first
 case first=>intro HJ;have cj:=Hd HJ;clear HJ;refine wp_seq (wp_label ?_);refine cj f _ _ ?_;exact⟨S,HM,HF,rfl⟩
 case pass=>
  rintro m a' w2 ⟨S2,HS,bb,ha⟩;obtain⟨f,hf⟩:∃f,a'=Of mb f:=⟨_,ha⟩
  clear ha;subst hf;unfold Of;cases m with
  | zero=>have h:=bb.out;simp[Gz.Hh]at h
  | succ m=>
   obtain⟨A',m',c8,c6⟩:∃A' m',Gz.Fz (ED.map (·.2)) S2 false=(A',m')/\(if m' then Gz.Hh (ED.map (·.2)) m A'=nJ Sf else A'=Sf):=by
    have h:=bb.out;unfold Gz.Hh at h;split at h
    ·rename_i A' hA
     exact⟨A',true,hA,by rw[if_pos rfl];exact h⟩
    ·rename_i A' hA
     exact⟨A',false,hA,by rw[if_neg mV];exact Option.some.inj h⟩
   have ck:=Hd c8;have bn:=Hd c6;have cc:nQ w2 (mb,11)=nJ (nC Ae ED.length ce):=HS.cells.2.2.2.2.2.2.2.2.1;clear c8 c6 bb;obtain⟨ne,bi⟩:∃k,ED.length=k:=⟨_,rfl⟩
   obtain⟨T,bj⟩:∃k,P.length=k:=⟨_,rfl⟩
   have b8:=Hd bi;have b9:=Hd bj;rw[bi]at cc hE;rw[bj]at hP;clear bi bj;go_wp2_with fail
   go_loopw [2,10] (fun mo ii w'=>∃(k:Nat) (mm:Bool) (A:List Nat),k<=ne/\ii=nE nM k/\mo=nI mm/\Hid (Mk w1 w3 w' mb fb n c (.agg #[x0,x1,x2,x3]) lv rv tlv uv cv bv (nC Aa P.length R) (nC Ae ED.length ce) g base P A ED FR)/\Hid (Gz.Fz ((ED.map (·.2)).drop k) A mm=(A',m'))) (fun _ ii _=>ne-(intOf ii).toNat)
   case atStart=>exact⟨0,false,S2,A0 _,rfl,rfl,HS,ck⟩
   case round=>
    obtain⟨k,mm,A,hk,rfl,rfl,HA,ba⟩:=hrel;rename nS=>w4
    clear cc;by_cases cw:k<ne
    ·obtain⟨⟨q,⟨j,p,es,ef⟩⟩,hx⟩:∃x,ED[k]?=nJ x:=⟨_,eG (by rw[b8.out];exact cw)⟩
     have bl:=mG hx;obtain⟨bf,bh⟩:=ch ⟨j,p,es,ef⟩ (List.mem_map.2 ⟨_,bl,rfl⟩);simp only at bf bh;obtain⟨pd,c9⟩:∃an,P[j]?=nJ an:=⟨_,eG bf⟩
     obtain⟨pa,c7⟩:∃an,P[p]?=nJ an:=⟨_,eG bh⟩
     have bx:(ED.map (·.2)).drop k=⟨j,p,es,ef⟩::(ED.map (·.2)).drop (k+1):=IH (by rw[pG,hx];rfl);have az:=Hd ba;rw[bx]at az;have cf:=Hd (HA.Jy _ bl);have b0:=Hd c9;have ay:=Hd c7;obtain⟨au,c0⟩:=sG.1 hx;have e0:=CR DB 4 (fun _=>rfl) ED k 0 au mR;have e1:=CR DB 4 (fun _=>rfl) ED k 1 au mR;have e2:=CR DB 4 (fun _=>rfl) ED k 2 au mR;have e3:=CR DB 4 (fun _=>rfl) ED k 3 au mR;rw[c0]at e0 e1 e2 e3;obtain⟨be,cr⟩:∃be,Ae=nJ ⟨be,0,nK⟩:=by
      rcases Bg HA.Ex with⟨_,h0⟩|⟨b,c',h1,_⟩
      ·rw[b8.out]at h0;omega
      ·cases h1;exact⟨b,rfl⟩
     subst cr;obtain⟨l,cq⟩:∃l,Aa=nJ ⟨l,0,nK⟩:=by
      rcases Bg HA.all with⟨_,h0⟩|⟨b,c',h1,_⟩
      ·omega
      ·cases h1;exact⟨b,rfl⟩
     subst cq;have ax:=HA.Ex;have d0:nQ w4 ⟨be,k*4,nK⟩=nJ (nE nM j):=by rw[Bb ax (k*4) mR];rw[Nat.add_zero]at e0;exact e0
     have d1:nQ w4 ⟨be,k*4+1,nK⟩=nJ (nE nM p):=by rw[Bb ax (k*4+1) mR];exact e1
     have d2:nQ w4 ⟨be,k*4+2,nK⟩=nJ (hV q):=by rw[Bb ax (k*4+2) mR];exact e2
     have d3:nQ w4 ⟨be,k*4+3,nK⟩=nJ (nI ef):=by rw[Bb ax (k*4+3) mR];exact e3
     have cm:Hid (∀y (A2:List Nat),Mk w1 w3 y mb fb n c (.agg #[x0,x1,x2,x3]) lv rv tlv uv cv bv (nC (nJ ⟨l,0,nK⟩) P.length R) (nC (nJ ⟨be,0,nK⟩) ED.length ce) g base P A2 ED FR->nQ y (mb,10)=nJ (nC (nJ ⟨l,0,nK⟩) T R)/\nQ y ⟨l,j,nK⟩=nJ (nF (pd.h,0))/\nQ y ⟨l,p,nK⟩=nJ (nF (pa.h,0))):=Hd (fun y A2 J=>by
      refine⟨by rw[<-b9.out];exact J.cells.2.2.2.2.2.2.2.1,?_,?_⟩
      ·rw[Bb J.all j mR,pG,b0.out];rfl
      ·rw[Bb J.all p mR,pG,ay.out];rfl)
     obtain⟨I,bk⟩:∃I,hV q=.pointer I:=by cases q<;>exact⟨_,rfl⟩
     rw[bk]at d2;have cl:=Hd bk;clear hx bl c9 c7 bx au c0 e0 e1 e2 e3 ax bk ba;rw[b9.out]at bf bh;go_upto_region 4 with fail
     have ab:Hid (Ah (w4.alloc (nO #[j,p,.pointer I,nI ef] 299)) w4.heap.size 299 #[j,p,.pointer I,nI ef]):=Hd (Ah.new w4 299 _);have ai:=Hd (HA.later (DE w4 (nO #[j,p,.pointer I,nI ef] 299)));have cg:=Hd (cf.later (DE w4 (nO #[j,p,.pointer I,nI ef] 299)));generalize w4.alloc (nO #[j,p,.pointer I,nI ef] 299)=w5 at *;generalize w4.heap.size=o at *;clear d0 d1 d2 d3;have ag:Hid (∀y (A2:List Nat),Mk w1 w3 y mb fb n c (.agg #[x0,x1,x2,x3]) lv rv tlv uv cv bv (nC (nJ ⟨l,0,nK⟩) P.length R) (nC (nJ ⟨be,0,nK⟩) ED.length ce) g base P A2 ED FR->Ah y o 299 #[j,p,.pointer I,nI ef]->(fun(v:nS)=>nQ v (mb,10)=nJ (nC (nJ ⟨l,0,nK⟩) T R)/\nQ v (o,0)=nJ (nE nM j)/\nQ v (o,1)=nJ (nE nM p)/\nQ v (o,2)=nJ (.pointer I)/\nQ v ⟨l,j,nK⟩=nJ (nF (pd.h,0))/\nQ v ⟨l,p,nK⟩=nJ (nF (pa.h,0))) y):=Hd (fun y A2 J hb=>by
      obtain⟨a1,a2,a3⟩:=cm y A2 J;exact⟨a1,hb.cell 0,hb.cell 1,hb.cell 2,a2,a3⟩)
     have b3:=Hd (fun Y (J:Below w5 w5 Y)=>ag Y _ (ai.later J) (ab.below J ab.lt));have ah:Hid (Below w5 w5 w5.drew):=Hd ((Below.refl _ w5).drew);obtain⟨qq,bw,ca,cb⟩:=QZ ((ai.later ah).AP.at_ p pa ay);have bo:=Hd bw;unfold AH.v at bo;have bt:=Hd (And.intro ca cb);have d5:(j:Int)<(T:Int):=by omega
     have d4:(p:Int)<(T:Int):=by omega
     clear bw ca cb
     go_region_held3 (fun(v:nS)=>nQ v (mb,10)=nJ (nC (nJ ⟨l,0,nK⟩) T R)/\nQ v (o,0)=nJ (nE nM j)/\nQ v (o,1)=nJ (nE nM p)/\nQ v (o,2)=nJ (.pointer I)/\nQ v ⟨l,j,nK⟩=nJ (nF (pd.h,0))/\nQ v ⟨l,p,nK⟩=nJ (nF (pa.h,0)))
      (first|exact b3 _ ah)
      (first|(go_at_call 195;refine bo.mono ?_;rintro e C ⟨rfl,rfl⟩))
     by_cases hz:A.getD p 0=0
     ·have cx:qq<0:=bt.1 hz
      have a5:Hid (Gz.Fz ((ED.map (·.2)).drop (k+1)) A mm=(A',m')):=Hd (by have h:=az.out;unfold Gz.Fz at h;rw[if_pos hz]at h;exact h)
      clear hz;go_wp2_with fail
      go_roundw
      case rel=>exact⟨k+1,mm,A,mR,mY,rfl,Hd (ai.later ah),a5⟩
      case measure=>simp[intOf];omega
     ·have cx:¬(qq<0):=by have:=bt.2 hz;omega
      obtain⟨X0,b5⟩:∃x,A.getD j 0=x:=⟨_,rfl⟩
      obtain⟨X1,b6⟩:∃x,X0|||es=x:=⟨_,rfl⟩
      obtain⟨X2,bc⟩:∃x,X1|||(if j=p then X1 else A.getD p 0)=x:=⟨_,rfl⟩
      obtain⟨b1,bd⟩:∃b,(X1 != X0)=b:=⟨_,rfl⟩
      have bq:Hid (ef=false->Gz.Fz ((ED.map (·.2)).drop (k+1)) (A.set j X1) (b1||mm)=(A',m')):=Hd (fun e=>by have h:=az.out;subst e;unfold Gz.Fz at h;rw[if_neg hz]at h;simp only[Bool.false_eq_true,if_false]at h;rw[b5,b6,bd]at h;exact h)
      have br:Hid (ef=true->Gz.Fz ((ED.map (·.2)).drop (k+1)) ((A.set j X1).set j X2) ((X2 != X1)||(b1||mm))=(A',m')):=Hd (fun e=>by have h:=az.out;subst e;unfold Gz.Fz at h;rw[if_neg hz]at h;simp only[if_true]at h;rw[b5,b6,bc,bd]at h;rw[List.set_set];exact h)
      have b4:Hid ((A.set j X1).getD j 0|||(A.set j X1).getD p 0=X2/\(A.set j X1).getD j 0=X1):=Hd (by
       have hl:j<A.length:=by have h:=ai.AP.len;have h2:=b9.out;omega
       have h1:(A.set j X1).getD j 0=X1:=by rw[dG,tG hl];rfl
       refine⟨?_,h1⟩;rw[h1,<-bc];congr 1;by_cases he:j=p
       ·rw[if_pos he,<-he];exact h1
       ·rw[if_neg he,dG,uG he,<-dG])
      have bp:Hid (() 197 #[(pd.h,0),.pointer I] w5.drew.drew fun e w'=>e=nP (nI b1)/\Mk w1 w3 w' mb fb n c (.agg #[x0,x1,x2,x3]) lv rv tlv uv cv bv (nC (nJ ⟨l,0,nK⟩) P.length R) (nC (nJ ⟨be,0,nK⟩) ED.length ce) g base P (A.set j X1) ED FR/\Aj (XP P) w5.drew.drew w'):=Hd (by have h:=(ai.later (ah.drew)).bI b0 (cg.later (ah.drew));rw[cl.out,b5]at h;rw[b6,bd]at h;exact h)
      have bm:Hid (∀(cs:Array nU),∀b,Ah w5.drew.drew b 299 cs->¬XP P b):=Hd (fun cs b hb=>by rintro⟨an,hp,rfl⟩;obtain⟨bu,hT⟩:=(ai.later (ah.drew)).AP.mem hp;exact Ah.Bh hb hT.words mT rfl)
      have ab:Hid (Ah w5.drew o 299 #[j,p,.pointer I,nI ef]):=Hd ab.drew;have b3:=Hd (fun Y (J:Below w5.drew.heap.size w5.drew Y)=>ag Y _ ((ai.later ah).later J) (ab.below J ab.lt));clear b5 b6 bc hz;generalize w5.drew=w5 at *;cases b1 with
      | true=>
       go_upto_region 5 with fail
       refine CO 14 (fun(v:nS)=>nQ v (mb,10)=nJ (nC (nJ ⟨l,0,nK⟩) T R)/\nQ v (o,0)=nJ (nE nM j)/\nQ v (o,1)=nJ (nE nM p)/\nQ v (o,2)=nJ (.pointer I)/\nQ v ⟨l,j,nK⟩=nJ (nF (pd.h,0))/\nQ v ⟨l,p,nK⟩=nJ (nF (pa.h,0))) mU ?_;have i:(fun(v:nS)=>nQ v (mb,10)=nJ (nC (nJ ⟨l,0,nK⟩) T R)/\nQ v (o,0)=nJ (nE nM j)/\nQ v (o,1)=nJ (nE nM p)/\nQ v (o,2)=nJ (.pointer I)/\nQ v ⟨l,j,nK⟩=nJ (nF (pd.h,0))/\nQ v ⟨l,p,nK⟩=nJ (nF (pa.h,0))) w5.drew:=b3 _ ((Below.refl _ w5).drew)
       refine AG 0 i ?_;simp only[AD,AA];refine AG 1 i ?_;simp only[AD,AA];refine AG 2 i ?_;simp only[AD,AA];refine AG 3 i ?_;simp only[AD,AA];refine AG 4 i ?_;simp only[AD,AA];refine AG 5 i ?_;simp only[AD,AA];refine AG 6 i ?_;simp only[AD,AA];refine AG 7 i ?_;simp only[AD,AA];refine AG 8 i ?_;simp only[AD,AA];refine AG 9 i ?_;simp only[AD,AA];clear i;refine Be 10 mU rfl rfl (fun K t=>?_);go_simp;refine bp.mono ?_;rintro e C ⟨rfl,aw,ar⟩;have ad:=Hd aw
       have al:=ab.below ((Below.refl _ w5).drew) ab.lt;have a0:=Hd (ar.Ap al (fun e=>bm _ _ al e));clear ar aw al;have af:=Hd (fun Y (J:Below C C Y)=>ag Y _ (ad.later J) (a0.below J a0.lt));refine t _ _ (fun _=>af C (Below.refl _ _)) ?_;clear t K;have i:(fun(v:nS)=>nQ v (mb,10)=nJ (nC (nJ ⟨l,0,nK⟩) T R)/\nQ v (o,0)=nJ (nE nM j)/\nQ v (o,1)=nJ (nE nM p)/\nQ v (o,2)=nJ (.pointer I)/\nQ v ⟨l,j,nK⟩=nJ (nF (pd.h,0))/\nQ v ⟨l,p,nK⟩=nJ (nF (pa.h,0))) C:=af C (Below.refl _ _)
       refine AG 11 i ?_;simp only[AD,AA];refine JI 12 rfl mU mU mU mU (fun _ _ _ h=>h) (Or.inr ⟨nB,rfl⟩) i rfl ?rc12;simp only[List.set_cons_succ,List.set_cons_zero];refine AG 13 i ?_;simp only[AD,AA];clear i;refine Be 14 mU rfl rfl (fun K t=>?_);go_simp;refine t _ _ (fun h=>absurd rfl h) ?_;clear t K;refine CI mU ?_ _;have e3:nQ C (o,3)=nJ (nI ef):=Ah.cell a0 3;have cn:=a0.lt;cases ef with
       | false=>
        have a5:=Hd (bq rfl);go_wp2_with fail
        go_roundw
        case rel=>exact⟨k+1,true,_,mR,mY,rfl,ad,a5⟩
        case measure=>simp[intOf];omega
       | true=>
        have ak:=Hd (br rfl);have ae:=Hd ((ad.later ((Below.refl _ C).drew)).UT b0 ay);have ao:Hid (∀(cs:Array nU),∀b,Ah C.drew b 299 cs->¬XP P b):=Hd (fun cs b hb=>by rintro⟨an,hp,rfl⟩;obtain⟨bu,hT⟩:=(ad.later ((Below.refl _ C).drew)).AP.mem hp;exact Ah.Bh hb hT.words mT rfl)
        rw[b4.1,b4.2]at ae;obtain⟨b2,aq⟩:∃b,(X2 != X1)=b:=⟨_,rfl⟩
        unfold AH.v at ae;have aj:=Hd ae;rw[aq]at aj ak;clear ae aq;cases b2 with
        | true=>
         have a5:=ak;go_upto_region 7 with fail
         refine CO 20 (fun(v:nS)=>nQ v (mb,10)=nJ (nC (nJ ⟨l,0,nK⟩) T R)/\nQ v (o,0)=nJ (nE nM j)/\nQ v (o,1)=nJ (nE nM p)/\nQ v (o,2)=nJ (.pointer I)/\nQ v ⟨l,j,nK⟩=nJ (nF (pd.h,0))/\nQ v ⟨l,p,nK⟩=nJ (nF (pa.h,0))) mU ?_;have i:(fun(v:nS)=>nQ v (mb,10)=nJ (nC (nJ ⟨l,0,nK⟩) T R)/\nQ v (o,0)=nJ (nE nM j)/\nQ v (o,1)=nJ (nE nM p)/\nQ v (o,2)=nJ (.pointer I)/\nQ v ⟨l,j,nK⟩=nJ (nF (pd.h,0))/\nQ v ⟨l,p,nK⟩=nJ (nF (pa.h,0))) C.drew:=af _ ((Below.refl _ C).drew)
         refine AG 0 i ?_;simp only[AD,AA];refine AG 1 i ?_;simp only[AD,AA];refine AG 2 i ?_;simp only[AD,AA];refine AG 3 i ?_;simp only[AD,AA];refine AG 4 i ?_;simp only[AD,AA];refine AG 5 i ?_;simp only[AD,AA];refine AG 6 i ?_;simp only[AD,AA];refine AG 7 i ?_;simp only[AD,AA];refine AG 8 i ?_;simp only[AD,AA];refine AG 9 i ?_;simp only[AD,AA];refine AG 10 i ?_;simp only[AD,AA];refine AG 11 i ?_;simp only[AD,AA];refine AG 12 i ?_;simp only[AD,AA];refine AG 13 i ?_;simp only[AD,AA]
         refine AG 14 i ?_;simp only[AD,AA];refine AG 15 i ?_;simp only[AD,AA];clear i;refine Be 16 mU rfl rfl (fun K t=>?_);go_simp;refine aj.mono ?_;rintro e U ⟨rfl,aa,a9⟩;have a6:=Hd aa;have a4:=a0.below ((Below.refl _ C).drew) a0.lt;have a8:=Hd (a9.Ap a4 (fun e=>ao _ _ a4 e));clear a9 aa a4;have a7:=Hd (fun Y (J:Below U U Y)=>ag Y _ (a6.later J) (a8.below J a8.lt));refine t _ _ (fun _=>a7 U (Below.refl _ _)) ?_;clear t K;have i:(fun(v:nS)=>nQ v (mb,10)=nJ (nC (nJ ⟨l,0,nK⟩) T R)/\nQ v (o,0)=nJ (nE nM j)/\nQ v (o,1)=nJ (nE nM p)/\nQ v (o,2)=nJ (.pointer I)/\nQ v ⟨l,j,nK⟩=nJ (nF (pd.h,0))/\nQ v ⟨l,p,nK⟩=nJ (nF (pa.h,0))) U:=a7 U (Below.refl _ _)
         refine AG 17 i ?_;simp only[AD,AA];refine JI 18 rfl mU mU mU mU (fun _ _ _ h=>h) (Or.inr ⟨nB,rfl⟩) i rfl ?re18;simp only[List.set_cons_succ,List.set_cons_zero];refine AG 19 i ?_;simp only[AD,AA];clear i;refine Be 20 mU rfl rfl (fun K t=>?_);go_simp;refine t _ _ (fun h=>absurd rfl h) ?_;clear t K;refine CI mU ?_ _;go_wp2_with fail
         go_roundw
         case rel=>exact⟨k+1,true,_,mR,mY,rfl,a6,a5⟩
         case measure=>simp[intOf];omega
        | false=>
         have a5:=ak;go_upto_region 7 with fail
         refine CO 20 (fun(v:nS)=>nQ v (mb,10)=nJ (nC (nJ ⟨l,0,nK⟩) T R)/\nQ v (o,0)=nJ (nE nM j)/\nQ v (o,1)=nJ (nE nM p)/\nQ v (o,2)=nJ (.pointer I)/\nQ v ⟨l,j,nK⟩=nJ (nF (pd.h,0))/\nQ v ⟨l,p,nK⟩=nJ (nF (pa.h,0))) mU ?_;have i:(fun(v:nS)=>nQ v (mb,10)=nJ (nC (nJ ⟨l,0,nK⟩) T R)/\nQ v (o,0)=nJ (nE nM j)/\nQ v (o,1)=nJ (nE nM p)/\nQ v (o,2)=nJ (.pointer I)/\nQ v ⟨l,j,nK⟩=nJ (nF (pd.h,0))/\nQ v ⟨l,p,nK⟩=nJ (nF (pa.h,0))) C.drew:=af _ ((Below.refl _ C).drew)
         refine AG 0 i ?_;simp only[AD,AA];refine AG 1 i ?_;simp only[AD,AA];refine AG 2 i ?_;simp only[AD,AA];refine AG 3 i ?_;simp only[AD,AA];refine AG 4 i ?_;simp only[AD,AA];refine AG 5 i ?_;simp only[AD,AA];refine AG 6 i ?_;simp only[AD,AA];refine AG 7 i ?_;simp only[AD,AA];refine AG 8 i ?_;simp only[AD,AA];refine AG 9 i ?_;simp only[AD,AA];refine AG 10 i ?_;simp only[AD,AA];refine AG 11 i ?_;simp only[AD,AA];refine AG 12 i ?_;simp only[AD,AA];refine AG 13 i ?_;simp only[AD,AA]
         refine AG 14 i ?_;simp only[AD,AA];refine AG 15 i ?_;simp only[AD,AA];clear i;refine Be 16 mU rfl rfl (fun K t=>?_);go_simp;refine aj.mono ?_;rintro e U ⟨rfl,aa,a9⟩;have a6:=Hd aa;have a4:=a0.below ((Below.refl _ C).drew) a0.lt;have a8:=Hd (a9.Ap a4 (fun e=>ao _ _ a4 e));clear a9 aa a4;have a7:=Hd (fun Y (J:Below U U Y)=>ag Y _ (a6.later J) (a8.below J a8.lt));refine t _ _ (fun _=>a7 U (Below.refl _ _)) ?_;clear t K;have i:(fun(v:nS)=>nQ v (mb,10)=nJ (nC (nJ ⟨l,0,nK⟩) T R)/\nQ v (o,0)=nJ (nE nM j)/\nQ v (o,1)=nJ (nE nM p)/\nQ v (o,2)=nJ (.pointer I)/\nQ v ⟨l,j,nK⟩=nJ (nF (pd.h,0))/\nQ v ⟨l,p,nK⟩=nJ (nF (pa.h,0))) U:=a7 U (Below.refl _ _)
         refine AG 17 i ?_;simp only[AD,AA];refine AG 18 i ?_;simp only[AD,AA];refine AG 19 i ?_;simp only[AD,AA];clear i;refine Be 20 mU rfl rfl (fun K t=>?_);go_simp;refine t _ _ (fun h=>absurd rfl h) ?_;clear t K;refine CI mU ?_ _;go_wp2_with fail
         go_roundw
         case rel=>exact⟨k+1,true,_,mR,mY,rfl,a6,a5⟩
         case measure=>simp[intOf];omega
      | false=>
       go_upto_region 5 with fail
       refine CO 14 (fun(v:nS)=>nQ v (mb,10)=nJ (nC (nJ ⟨l,0,nK⟩) T R)/\nQ v (o,0)=nJ (nE nM j)/\nQ v (o,1)=nJ (nE nM p)/\nQ v (o,2)=nJ (.pointer I)/\nQ v ⟨l,j,nK⟩=nJ (nF (pd.h,0))/\nQ v ⟨l,p,nK⟩=nJ (nF (pa.h,0))) mU ?_;have i:(fun(v:nS)=>nQ v (mb,10)=nJ (nC (nJ ⟨l,0,nK⟩) T R)/\nQ v (o,0)=nJ (nE nM j)/\nQ v (o,1)=nJ (nE nM p)/\nQ v (o,2)=nJ (.pointer I)/\nQ v ⟨l,j,nK⟩=nJ (nF (pd.h,0))/\nQ v ⟨l,p,nK⟩=nJ (nF (pa.h,0))) w5.drew:=b3 _ ((Below.refl _ w5).drew)
       refine AG 0 i ?_;simp only[AD,AA];refine AG 1 i ?_;simp only[AD,AA];refine AG 2 i ?_;simp only[AD,AA];refine AG 3 i ?_;simp only[AD,AA];refine AG 4 i ?_;simp only[AD,AA];refine AG 5 i ?_;simp only[AD,AA];refine AG 6 i ?_;simp only[AD,AA];refine AG 7 i ?_;simp only[AD,AA];refine AG 8 i ?_;simp only[AD,AA];refine AG 9 i ?_;simp only[AD,AA];clear i;refine Be 10 mU rfl rfl (fun K t=>?_);go_simp;refine bp.mono ?_;rintro e C ⟨rfl,aw,ar⟩;have ad:=Hd aw
       have al:=ab.below ((Below.refl _ w5).drew) ab.lt;have a0:=Hd (ar.Ap al (fun e=>bm _ _ al e));clear ar aw al;have af:=Hd (fun Y (J:Below C C Y)=>ag Y _ (ad.later J) (a0.below J a0.lt));refine t _ _ (fun _=>af C (Below.refl _ _)) ?_;clear t K;have i:(fun(v:nS)=>nQ v (mb,10)=nJ (nC (nJ ⟨l,0,nK⟩) T R)/\nQ v (o,0)=nJ (nE nM j)/\nQ v (o,1)=nJ (nE nM p)/\nQ v (o,2)=nJ (.pointer I)/\nQ v ⟨l,j,nK⟩=nJ (nF (pd.h,0))/\nQ v ⟨l,p,nK⟩=nJ (nF (pa.h,0))) C:=af C (Below.refl _ _)
       refine AG 11 i ?_;simp only[AD,AA];refine AG 12 i ?_;simp only[AD,AA];refine AG 13 i ?_;simp only[AD,AA];clear i;refine Be 14 mU rfl rfl (fun K t=>?_);go_simp;refine t _ _ (fun h=>absurd rfl h) ?_;clear t K;refine CI mU ?_ _;have e3:nQ C (o,3)=nJ (nI ef):=Ah.cell a0 3;have cn:=a0.lt;cases ef with
       | false=>
        have a5:=Hd (bq rfl);go_wp2_with fail
        go_roundw
        case rel=>exact⟨k+1,mm,_,mR,mY,rfl,ad,a5⟩
        case measure=>simp[intOf];omega
       | true=>
        have ak:=Hd (br rfl);have ae:=Hd ((ad.later ((Below.refl _ C).drew)).UT b0 ay);have ao:Hid (∀(cs:Array nU),∀b,Ah C.drew b 299 cs->¬XP P b):=Hd (fun cs b hb=>by rintro⟨an,hp,rfl⟩;obtain⟨bu,hT⟩:=(ad.later ((Below.refl _ C).drew)).AP.mem hp;exact Ah.Bh hb hT.words mT rfl)
        rw[b4.1,b4.2]at ae;obtain⟨b2,aq⟩:∃b,(X2 != X1)=b:=⟨_,rfl⟩
        unfold AH.v at ae;have aj:=Hd ae;rw[aq]at aj ak;clear ae aq;cases b2 with
        | true=>
         have a5:=ak;go_upto_region 7 with fail
         refine CO 20 (fun(v:nS)=>nQ v (mb,10)=nJ (nC (nJ ⟨l,0,nK⟩) T R)/\nQ v (o,0)=nJ (nE nM j)/\nQ v (o,1)=nJ (nE nM p)/\nQ v (o,2)=nJ (.pointer I)/\nQ v ⟨l,j,nK⟩=nJ (nF (pd.h,0))/\nQ v ⟨l,p,nK⟩=nJ (nF (pa.h,0))) mU ?_;have i:(fun(v:nS)=>nQ v (mb,10)=nJ (nC (nJ ⟨l,0,nK⟩) T R)/\nQ v (o,0)=nJ (nE nM j)/\nQ v (o,1)=nJ (nE nM p)/\nQ v (o,2)=nJ (.pointer I)/\nQ v ⟨l,j,nK⟩=nJ (nF (pd.h,0))/\nQ v ⟨l,p,nK⟩=nJ (nF (pa.h,0))) C.drew:=af _ ((Below.refl _ C).drew)
         refine AG 0 i ?_;simp only[AD,AA];refine AG 1 i ?_;simp only[AD,AA];refine AG 2 i ?_;simp only[AD,AA];refine AG 3 i ?_;simp only[AD,AA];refine AG 4 i ?_;simp only[AD,AA];refine AG 5 i ?_;simp only[AD,AA];refine AG 6 i ?_;simp only[AD,AA];refine AG 7 i ?_;simp only[AD,AA];refine AG 8 i ?_;simp only[AD,AA];refine AG 9 i ?_;simp only[AD,AA];refine AG 10 i ?_;simp only[AD,AA];refine AG 11 i ?_;simp only[AD,AA];refine AG 12 i ?_;simp only[AD,AA];refine AG 13 i ?_;simp only[AD,AA]
         refine AG 14 i ?_;simp only[AD,AA];refine AG 15 i ?_;simp only[AD,AA];clear i;refine Be 16 mU rfl rfl (fun K t=>?_);go_simp;refine aj.mono ?_;rintro e U ⟨rfl,aa,a9⟩;have a6:=Hd aa;have a4:=a0.below ((Below.refl _ C).drew) a0.lt;have a8:=Hd (a9.Ap a4 (fun e=>ao _ _ a4 e));clear a9 aa a4;have a7:=Hd (fun Y (J:Below U U Y)=>ag Y _ (a6.later J) (a8.below J a8.lt));refine t _ _ (fun _=>a7 U (Below.refl _ _)) ?_;clear t K;have i:(fun(v:nS)=>nQ v (mb,10)=nJ (nC (nJ ⟨l,0,nK⟩) T R)/\nQ v (o,0)=nJ (nE nM j)/\nQ v (o,1)=nJ (nE nM p)/\nQ v (o,2)=nJ (.pointer I)/\nQ v ⟨l,j,nK⟩=nJ (nF (pd.h,0))/\nQ v ⟨l,p,nK⟩=nJ (nF (pa.h,0))) U:=a7 U (Below.refl _ _)
         refine AG 17 i ?_;simp only[AD,AA];refine JI 18 rfl mU mU mU mU (fun _ _ _ h=>h) (Or.inr ⟨nB,rfl⟩) i rfl ?rk18;simp only[List.set_cons_succ,List.set_cons_zero];refine AG 19 i ?_;simp only[AD,AA];clear i;refine Be 20 mU rfl rfl (fun K t=>?_);go_simp;refine t _ _ (fun h=>absurd rfl h) ?_;clear t K;refine CI mU ?_ _;go_wp2_with fail
         go_roundw
         case rel=>exact⟨k+1,true,_,mR,mY,rfl,a6,a5⟩
         case measure=>simp[intOf];omega
        | false=>
         have a5:=ak;go_upto_region 7 with fail
         refine CO 20 (fun(v:nS)=>nQ v (mb,10)=nJ (nC (nJ ⟨l,0,nK⟩) T R)/\nQ v (o,0)=nJ (nE nM j)/\nQ v (o,1)=nJ (nE nM p)/\nQ v (o,2)=nJ (.pointer I)/\nQ v ⟨l,j,nK⟩=nJ (nF (pd.h,0))/\nQ v ⟨l,p,nK⟩=nJ (nF (pa.h,0))) mU ?_;have i:(fun(v:nS)=>nQ v (mb,10)=nJ (nC (nJ ⟨l,0,nK⟩) T R)/\nQ v (o,0)=nJ (nE nM j)/\nQ v (o,1)=nJ (nE nM p)/\nQ v (o,2)=nJ (.pointer I)/\nQ v ⟨l,j,nK⟩=nJ (nF (pd.h,0))/\nQ v ⟨l,p,nK⟩=nJ (nF (pa.h,0))) C.drew:=af _ ((Below.refl _ C).drew)
         refine AG 0 i ?_;simp only[AD,AA];refine AG 1 i ?_;simp only[AD,AA];refine AG 2 i ?_;simp only[AD,AA];refine AG 3 i ?_;simp only[AD,AA];refine AG 4 i ?_;simp only[AD,AA];refine AG 5 i ?_;simp only[AD,AA];refine AG 6 i ?_;simp only[AD,AA];refine AG 7 i ?_;simp only[AD,AA];refine AG 8 i ?_;simp only[AD,AA];refine AG 9 i ?_;simp only[AD,AA];refine AG 10 i ?_;simp only[AD,AA];refine AG 11 i ?_;simp only[AD,AA];refine AG 12 i ?_;simp only[AD,AA];refine AG 13 i ?_;simp only[AD,AA]
         refine AG 14 i ?_;simp only[AD,AA];refine AG 15 i ?_;simp only[AD,AA];clear i;refine Be 16 mU rfl rfl (fun K t=>?_);go_simp;refine aj.mono ?_;rintro e U ⟨rfl,aa,a9⟩;have a6:=Hd aa;have a4:=a0.below ((Below.refl _ C).drew) a0.lt;have a8:=Hd (a9.Ap a4 (fun e=>ao _ _ a4 e));clear a9 aa a4;have a7:=Hd (fun Y (J:Below U U Y)=>ag Y _ (a6.later J) (a8.below J a8.lt));refine t _ _ (fun _=>a7 U (Below.refl _ _)) ?_;clear t K;have i:(fun(v:nS)=>nQ v (mb,10)=nJ (nC (nJ ⟨l,0,nK⟩) T R)/\nQ v (o,0)=nJ (nE nM j)/\nQ v (o,1)=nJ (nE nM p)/\nQ v (o,2)=nJ (.pointer I)/\nQ v ⟨l,j,nK⟩=nJ (nF (pd.h,0))/\nQ v ⟨l,p,nK⟩=nJ (nF (pa.h,0))) U:=a7 U (Below.refl _ _)
         refine AG 17 i ?_;simp only[AD,AA];refine AG 18 i ?_;simp only[AD,AA];refine AG 19 i ?_;simp only[AD,AA];clear i;refine Be 20 mU rfl rfl (fun K t=>?_);go_simp;refine t _ _ (fun h=>absurd rfl h) ?_;clear t K;refine CI mU ?_ _;go_wp2_with fail
         go_roundw
         case rel=>exact⟨k+1,mm,_,mR,mY,rfl,a6,a5⟩
         case measure=>simp[intOf];omega
    ·obtain rfl:k=ne:=by omega
     have cd:Hid (A=A'/\mm=m'):=Hd (by have h:=ba.out;rw[List.drop_eq_nil_of_le (by rw[lM,b8.out];exact AF _)]at h;unfold Gz.Fz at h;exact⟨congrArg Prod.fst h,congrArg Prod.snd h⟩)
     obtain⟨cp,cy⟩:=cd.out;subst cp;subst cy;cases mm with
     | true=>
      have b7:Hid (Gz.Hh (ED.map (·.2)) m A=nJ Sf):=Hd (by have h:=bn.out;rwa [if_pos rfl]at h);go_wp2_with fail
      go_step3
      refine SL ?_;exact⟨m,Nat.lt_succ_self m,A,HA,b7,rfl⟩
     | false=>
      have b7:Hid (A=Sf):=Hd (by have h:=bn.out;rwa [if_neg mV]at h);rw[b7.out]at HA;go_wp2_with fail
      simp only[Exit.jump]
      go_end0
      exact⟨rfl,HA⟩
end
def Zh:El Tryz.prog 156 212 2 32:=El.of (z:=.agg #[nE nM 0,nC nK 0 0]) underlying156 mU rfl mT
def Fk(i:List It)(s:Nat):Option Nat:=(i.reverse.find? (fun p=>p.1==s)).map (·.2)
def Qk(i:List It)(x b s:Nat):(if s=x then nJ b else Fk i s)=Fk (i++[(x,b)]) s:=by
 unfold Fk;rw[List.reverse_append,List.reverse_singleton,List.singleton_append,List.find?_cons];by_cases h:s=x
 ·subst h
  rw[if_pos rfl];simp
 ·have j:((x,b).1==s)=false:=beq_false_of_ne (fun e=>h e.symm)
  rw[if_neg h,j]
def bT{i:List It}{s j:Nat}(h:Fk i s=nJ j):∃p∈i,p.2=j:=by unfold Fk at h;obtain⟨p,l,e⟩:=Option.map_eq_some_iff.1 h;exact⟨p,List.mem_reverse.1 (List.mem_of_find?_eq_some l),e⟩
theorem Ug(g:Gz):∀(K:List It) (x:It) (b:Nat),g.CJ (K++[x]) b=g.CJ K b++(if x.2=(g.right x.1).length then[(x.1,b+K.length)] else[])
 | [],x,b=>by
  show g.CJ [x] b=_;unfold Gz.CJ Gz.CJ;split
  ·simp
  ·simp
 | y::K,x,b=>by
  rw[List.cons_append];unfold Gz.CJ;rw[Ug g K x (b+1)];have e:b+1+K.length=b+(y::K).length:=by simp;omega
  rw[e];split
  ·rw[List.cons_append]
  ·rfl
theorem Pp{g:Gz}:∀(K:List It) (b:Nat),∀p∈g.CJ K b,p.2<b+K.length
 | [],b,p,i=>by unfold Gz.CJ at i;cases i
 | y::K,b,p,i=>by
  unfold Gz.CJ at i;split at i
  ·rcases List.mem_cons.1 i with rfl|h
   ·simp
   ·have:=Pp K (b+1) p h
    simp;omega
  ·have:=Pp K (b+1) p i
   simp;omega
def Iq(z:nU×(Nat×Nat)):List nU:=[nE nM (z.2.1:Nat),z.1]
structure Gu(w wr:nS)(m:Nat)(ov:nU)(Z:List (nU×(Nat×Nat))):Prop where
 below:Below w w wr
 row:wr.ownsRow w 212 2 ov Z.length (Z.flatMap Iq)
 own:∀z∈Z,wr.ownsRow w 3 1 z.1 (Bq m z.2.2).length ((Bq m z.2.2).map AS)
variable{Z:List (nU×(Nat×Nat))}
def Gu.start(w:nS)(m:Nat):Gu w w m (nC nK 0 0) []:=⟨Below.refl _ _,⟨rfl,.inl ⟨rfl,rfl⟩⟩,fun z i=>by cases i⟩
def Gu.later{w wr w2:nS}{m:Nat}{j:nU}(h:Gu w wr m j Z)(i:Below wr wr w2):Gu w w2 m j Z:=
 ⟨h.below.trans (i.mono h.below.size),AV h.row i,fun z l=>AV (h.own z l) i⟩
def Gu.more{w w2 w3:nS}{m:Nat}{p:nU}(h:Gu w w2 m p Z){tv:nU}{S:Nat}(l:w2.ownsRow w 3 1 tv (Bq m S).length ((Bq m S).map AS)){A:Option Addr}{c:Nat}
  (t:w3.ownsRow w 212 2 (nC A (Z.length+1) c) (Z.length+1) (Z.flatMap Iq++Iq (tv,(k,S)))) (j:AI w [212] w2 w3):Gu w w3 m (nC A (Z.length+1) c) (Z++[(tv,(k,S))]):=by
 refine⟨h.below.trans (j.below h.below.size),?_,fun z o=>?_⟩
 ·rw[List.flatMap_append,BS]
  simpa using t
 ·rcases mA.1 o with i|i
  ·exact j.own (h.own z i) (.inr mT)
  ·rw[mS.1 i]
   exact j.own l (.inr mT)
section
variable {w1 w3 w:nS} {mb fb n c:Nat} {v lv rv tlv uv cv bv av ev:nU} {g:Gz} {V:List (nU×nU)} {L E:List (List It)} {T:List (List (Nat×Bool))} {CC:List (List AZ)} {base:List Nat} {P:List AH} {S:List Nat} {ED:List (Option AH×Edge)} {FR:List (nU×List It)}
def MW(w:nS)(m:Nat)(l:List (Nat×Nat))(e:Ending)(w':nS):Prop:=∃A c2 Z,e=nP (nC A l.length c2)/\Z.map (·.2)=l/\Gu w w' m (nC A l.length c2) Z
def iZ(hs:PF w1 w3 mb fb v lv rv tlv uv cv g V L E T CC)(ar:Small L base)(h:Mk w1 w3 w mb fb n c v lv rv tlv uv cv bv av ev g base P S ED FR){st:Nat}{K:List It}(hK:L[st]?=nJ K)(c8:∀x∈K,x.1<=g.R.length/\x.2<=1000000)(hF:FR[st]?=nJ (fv,F))(c7:∀f∈F,f.1<=g.R.length/\f.2<P.length)(ds:F.length<=100000)(hP:P.length<=100000)(b7:base.getD st 0+K.length<=P.length) :
  () 153 #[(mb,0),st] w (MW w (g.nt+1) (g.II S (g.CJ K (base.getD st 0)++F))):=by
 have en:=hs.gn.fit.nr;obtain⟨AT,cT,AN,cN,AR,cR,rfl,-,-⟩:=hs.gn.open_;obtain⟨⟨z0,z1,z2,z3⟩,z4,z5,z6,z7,z8,z9,bk,ea,d6⟩:=h.cells;have hA:=hs.GC.later h.below;obtain⟨⟨AL,cL,rfl,ee,hc⟩,⟨ei,ej⟩,hit,-,ep⟩:=hA;have d2:=(sG.1 hK).1;obtain⟨xv,bh⟩:∃x,V[st]?=nJ x:=⟨_,eG mR⟩
 obtain⟨bL,oL,rfl,ec,c0,c1⟩:=hc st xv bh;obtain⟨⟨Ai,ci,d3,cm⟩,e4,dz⟩:=hit st xv K bh hK;rw[d3]at c0;obtain⟨o,b6⟩:∃x,base[st]?=nJ x:=⟨_,eG (by rw[ar.1];exact d2)⟩
 have b8:base.getD st 0=o:=by rw[dG,b6];rfl
 rw[b8]at b7;obtain⟨⟨AB,cB,dv,cj⟩,_,_⟩:Bv w bv base:=G4 h.FQ (by rw[ar.1];omega);obtain⟨bb,ob,dq,cb,ck⟩:=cj st o b6;subst dv;subst dq;rw[b8];obtain⟨br,d4,cr,_,_,e0,_,_,_⟩:=hs.Hb.Lv (k:=0) mR;subst e0;have dm:Hid (∀y,Below w w y->∀k,k<=g.R.length->∃Ad c2,nQ y (br,d4+k)=nJ (nC Ad (g.right k).length c2)/\br<y.heap.size):=Hd (fun y J k hk=>by
  obtain⟨b',o',c',Ad,c2,e,⟨du,cd⟩,dw,_⟩:=hs.Hb.Lv (k:=k) mR;cases e
  have cl:=h.Ay.next (Aj.AJ J);exact⟨Ad,c2,(cl.cell cd du.no _).trans dw,AK cd cl.size⟩)
 obtain⟨Aa,ca,dt⟩:=CS h.all;subst dt;have eo:st<n:=by have h1:=(sG.1 hF).1;have h2:=h.fin.len;omega
 obtain⟨Af,cf,cn⟩:=CS (h.fin.own st _ hF);simp only at cn;subst cn;have zf:nQ w (fb,st)=nJ (nC Af F.length cf):=by rw[Bb h.fin.row st mR,pG,hF];rfl
 have c6:=(BR h.fin.row fb rfl).1;have ay:=h.Ap.lt;have dh:Hid (CK w (nC Af F.length cf) F):=Hd (CK.own (h.fin.own st _ hF) mR);have HM:=Hd h;obtain⟨lk,a4⟩:∃k,K.length=k:=⟨_,rfl⟩
 obtain⟨lf,b9⟩:∃k,F.length=k:=⟨_,rfl⟩
 obtain⟨np,bd⟩:∃k,P.length=k:=⟨_,rfl⟩
 obtain⟨nb,bc⟩:∃k,base.length=k:=⟨_,rfl⟩
 obtain⟨nV,cw⟩:∃k,V.length=k:=⟨_,rfl⟩
 have al:=Hd a4;have bp:=Hd b9;have ag:=Hd bd;have er:st<nb:=by rw[<-bc,ar.1];exact d2
 rw[a4]at c0 b7;rw[b9]at zf ds;rw[bd]at hP b7 bk;rw[bc]at z9;rw[cw]at z4;have HZ:Hid (∀y,Below w w y->nQ y (mb,9)=nJ (nC (bb,ob) nb cB)/\nQ y (bb,ob+st)=nJ (nE nM (o:Nat))/\nQ y (mb,5)=nJ (nC (br,d4) (g.R.length+1) cr)/\nQ y (mb,12)=nJ (nC (fb,0) n c)/\nQ y (fb,st)=nJ (nC Af lf cf)/\nQ y (mb,10)=nJ (nC Aa np ca)/\mb<y.heap.size/\bb<y.heap.size/\fb<y.heap.size):=Hd (fun y J=>by have ew:=J.size;exact⟨(J.cell (p:=⟨mb,9,nK⟩) ay).trans z9,(J.cell (p:=⟨bb,ob+st,nK⟩) cb).trans ck,(J.cell (p:=⟨mb,5,nK⟩) ay).trans z5,(J.cell (p:=⟨mb,12,nK⟩) ay).trans d6,(J.cell (p:=⟨fb,st,nK⟩) c6).trans zf,(J.cell (p:=⟨mb,10,nK⟩) ay).trans bk,mR,mR,mR⟩)
 have d8:Hid (∀y,Below w w y->∀k x,K[k]?=nJ x->∃b off,Ai=nJ ⟨b,off,nK⟩/\b<y.heap.size/\nQ y ⟨b,off+k*2,nK⟩=nJ (nE nM x.1)/\nQ y ⟨b,off+k*2+1,nK⟩=nJ (nE nM x.2)):=Hd (fun y J k x hx=>by obtain⟨b,off,hA,a5,e1,e2⟩:=cm k x hx;exact⟨b,off,hA,AK a5 J.size,(J.cell (p:=⟨b,off+k*2,nK⟩) a5).trans e1,(J.cell (p:=⟨b,off+k*2+1,nK⟩) a5).trans e2⟩)
 have dc:=Hd c8;have bn:=Hd c7;have et:(st:Int)<(nV:Int):=by omega
 have es:(st:Int)<(nb:Int):=by omega
 have eu:(st:Int)<(n:Int):=by omega
 have ek:∀y:nS,(Instr.makeMap 304 nK).run Tryz.prog y=.ok (.map (nJ y.heap.size)) (y.alloc (.map #[] 0)):=fun y=>by kernel_rfl
 have bq:Hid (Below w w (w.alloc (.map #[] 0))/\Gs (w.alloc (.map #[] 0)) w.heap.size 0 (.map [])):=Hd ⟨(Below.refl _ w).alloc (AF _) _,World.ownsMap_made (H:=Unit) w Tryz.prog 3 (plainElem Tryz.prog 3)⟩;clear hs ar h hK c8 hF c7 cm hit hc bh ck b6 b8 dz d3 e4 cj z0 z1 z2 z3 z5 z6 z7 z8 z9 ea a4 b9 bd bc cw cb c1 bk d6 zf c6;unfold MW;go_enter func153,ntmps153
 go_wp2_with fail
 generalize cu:w.heap.size=t at *;have a3:=Hd cu;generalize w.alloc (.map #[] 0)=W0 at *;clear cu;go_loopw [24] (fun ii wr=>∃(i nD:Nat) (D:DataW Unit),i<=lk/\ii=nE nM i/\nD<=i/\Hid (Below t w wr)/\Hid (Gs wr t nD D)/\Hid (D5 D (Fk (g.CJ (K.take i) o)))) (fun ii _=>lk-(intOf ii).toNat)
 case atStart=>exact⟨0,0,_,A0 _,rfl,AF _,Hd bq.1,Hd bq.2,Hd (D5.start.congr fun s=>rfl)⟩
 case round=>
  obtain⟨i,nD,D,hi,rfl,el,HB,HI,HD⟩:=hrel;rename nS=>I
  obtain⟨k9,kb,k5,ab,kf,aa,lm,lb,ad⟩:=HZ I HB;by_cases a5:i<lk
  ·obtain⟨⟨j,l⟩,hx⟩:∃x,K[i]?=nJ x:=⟨_,eG (by rw[al.out];exact a5)⟩
   obtain⟨bi,oi,rfl,cc,d0,d1⟩:=d8 I HB i _ hx;obtain⟨au,aw⟩:=dc _ (mG hx);simp only at d0 d1 au aw;obtain⟨Ar,eb,kr,lr⟩:=dm I HB j au;obtain⟨rl,bf⟩:∃k,(g.right j).length=k:=⟨_,rfl⟩
   rw[bf]at kr;have ah:=Hd (Ah.new I 256 #[j,l]);have bm:Hid (Below t w (I.alloc (nO #[j,l] 256))):=Hd (HB.alloc (by have:=HB.size;rw[a3.out]at this;exact this) _);have bo:Hid (Gs (I.alloc (nO #[j,l] 256)) t nD D):=Hd (HI.alloc _);have bu:Hid (g.CJ (K.take (i+1)) o=g.CJ (K.take i) o++(if l=rl then[(j,o+i)] else[])):=Hd (by
    have e:K.take (i+1)=K.take i++[(j,l)]:=by rw[List.take_add_one,hx];rfl
    rw[e,Ug,List.length_take];simp only;rw[bf,show min i K.length=i by rw[al.out];omega])
   have e6:(j:Int)<((g.R.length+1:Nat):Int):=by omega
   have e7:(j:Int)<(g.R.length:Int)+1:=by omega
   clear hx bf;go_upto_region 5 with fail
   have x0:(I.alloc (nO #[j,l] 256)).cell? (I,0)=nJ (nE nM j):=Ah.cell ah 0;have x1:(I.alloc (nO #[j,l] 256)).cell? (I,1)=nJ (nE nM l):=Ah.cell ah 1;have xl:=ah.lt;go_quiet (fail)
   have bw:Hid (Ah ((I.alloc (nO #[j,l] 256)).drewN nq) I.heap.size 256 #[j,l]):=Hd (ah.drewN nq);have b0:Hid (Below t w ((I.alloc (nO #[j,l] 256)).drewN nq)):=Hd (bm.trans ⟨rfl,rfl,rfl,AF _,fun _ _=>rfl⟩);have b4:Hid (Gs ((I.alloc (nO #[j,l] 256)).drewN nq) t nD D):=Hd bo;generalize (I.alloc (nO #[j,l] 256)).drewN nq=w5 at *;generalize I.heap.size=bx at *;clear x0 x1 xl k9 kb k5 ab kf aa kr lr e6 e7 d0 d1 cc HI bo bm ah lm lb ad
   by_cases aj:l=rl
   ·have dy:((l:Int)==(rl:Int))=true:=by rw[aj];simp
    obtain⟨k9,kb,k5,ab,kf,aa,lm,lb,ad⟩:=HZ w5 b0;have x0:nQ w5 (bx,0)=nJ (nE nM j):=Ah.cell bw 0;have xl:=bw.lt;obtain⟨w6,cz,cs,cp⟩:=MV (w:=w5.drew) b4 mR (s:=j) (c:=o+i) mR mR;have cg:Aj (·=t) w5.drew w6:=Aj.of_map cp;have e5:IntKind.i64.wrap ((o:Int)+(i:Int))=((o+i:Nat):Int):=by rw[IntKind.wrap_i64];omega
    have af:Hid (D5 (D.put (Cj j) (.lit (.int nM ((o+i:Nat):Int)))) (Fk (g.CJ (K.take (i+1)) o))):=Hd (by
     refine(HD.next b4.isMap j (o+i)).congr fun s=>?_
     rw[bu.out,if_pos aj];exact Qk _ _ _ _)
    have d7:Hid (Below t w w6):=Hd (by have hd:Below t w w5.drew:=b0.drew;exact hd.trans (cg.below (by have:=hd.size;have:=a3.out;omega) (fun k hk e=>by have e2:k=t:=e;omega)))
    have df:=Hd cs;rw[Int.natCast_add]at cz e5;clear cs cp cg aj;go_upto_region 6 with fail
    refine CO 12 (fun(v:nS)=>nQ v (bx,0)=nJ (nE nM j)/\nQ v (mb,9)=nJ (nC (bb,ob) nb cB)/\nQ v (bb,ob+st)=nJ (nE nM o)) mU ?_;have R:(fun(v:nS)=>nQ v (bx,0)=nJ (nE nM j)/\nQ v (mb,9)=nJ (nC (bb,ob) nb cB)/\nQ v (bb,ob+st)=nJ (nE nM o)) w5.drew:=⟨x0,k9,kb⟩
    refine AG 0 R ?_;simp only[AD,AA];refine AG 1 R ?_;simp only[AD,AA];refine AG 2 R ?_;simp only[AD,AA];refine AG 3 R ?_;simp only[AD,AA];refine AG 4 R ?_;simp only[AD,AA];refine AG 5 R ?_;simp only[AD,AA];refine AG 6 R ?_;simp only[AD,AA];refine AG 7 R ?_;simp only[AD,AA];refine AG 8 R ?_;simp only[AD,AA];refine AG 9 R ?_;simp only[AD,AA];refine AG 10 R ?_;simp only[AD,AA];refine AG 11 R ?_;simp only[AD,AA];clear R;refine Be 12 mU rfl rfl (fun K hK=>?_)
    go_simp;refine hK _ _ (fun h=>absurd rfl h) ?_;clear hK K;refine CI mU ?_ _;go_wp2_with fail
    go_roundw
    case rel=>exact⟨i+1,nD+1,_,mR,mY,mR,d7,df,af⟩
    case measure=>simp[intOf];omega
   ·have dy:((l:Int)==(rl:Int))=false:=by rw[bN];omega
    have af:Hid (D5 D (Fk (g.CJ (K.take (i+1)) o))):=Hd (by have h:=HD.out;rw[bu.out,if_neg aj,List.append_nil];exact h)
    clear aj;go_wp2_with fail
    go_roundw
    case rel=>exact⟨i+1,nD,D,mR,mY,mR,b0,b4,af⟩
    case measure=>simp[intOf];omega
  ·obtain rfl:i=lk:=by omega
   have d9:Hid (D5 D (Fk (g.CJ K o++F.take 0))):=Hd (by have h:=HD.out;rw[Dd (by rw[al.out];exact AF _)]at h;rw[List.take_zero,List.append_nil];exact h)
   clear HD;go_wp2_with fail
   clear k9 kb k5 ab kf aa lm lb ad;go_loopw [62] (fun ii wr=>∃(U nD:Nat) (D:DataW Unit),U<=lf/\ii=nE nM U/\nD<=i+U/\Hid (Below t w wr)/\Hid (Gs wr t nD D)/\Hid (D5 D (Fk (g.CJ K o++F.take U)))) (fun ii _=>lf-(intOf ii).toNat)
   case atStart=>exact⟨0,nD,D,A0 _,rfl,mR,HB,HI,d9⟩
   case round=>
    obtain⟨U,bj,D2,ef,rfl,em,ae,b2,b1⟩:=hrel;rename nS=>w8
    obtain⟨k9,kb,k5,ab,kf,aa,lm,lb,ad⟩:=HZ w8 ae;by_cases a5:U<lf
    ·obtain⟨⟨j,l⟩,hx⟩:∃x,F[U]?=nJ x:=⟨_,eG (by rw[bp.out];exact a5)⟩
     obtain⟨au,aw⟩:=bn _ (mG hx);obtain⟨⟨A',c',e,hc⟩,-,-⟩:=dh.later (by rw[a3.out];exact ae);have e2:Af=A':=by cases e;rfl
     subst e2;obtain⟨bi,oi,rfl,cc,d0,d1⟩:=hc U _ hx;simp only at d0 d1 au aw;rw[ag.out]at aw;have a8:Hid (Below t w (w8.alloc (nO #[j,l] 307))):=Hd (ae.alloc (by have:=ae.size;rw[a3.out]at this;exact this) _);obtain⟨w9,cz,ct,cq⟩:=MV (w:=w8.alloc (nO #[j,l] 307)) (b2.alloc _) mR (s:=j) (c:=l) mR mR;have ch:Aj (·=t) (w8.alloc (nO #[j,l] 307)) w9:=Aj.of_map cq;have af:Hid (D5 (D2.put (Cj j) (.lit (.int nM (l:Int)))) (Fk (g.CJ K o++F.take (U+1)))):=Hd (by
      refine(b1.next b2.isMap j l).congr fun s=>?_
      have e3:F.take (U+1)=F.take U++[(j,l)]:=by rw[List.take_add_one,hx];rfl
      rw[e3,<-List.append_assoc];exact Qk _ _ _ _)
     have a7:Hid (Below t w w9):=Hd (a8.trans (ch.below (by have:=a8.size;have:=a3.out;omega) (fun k hk e=>by have e2:k=t:=e;omega)));have dg:=Hd ct;clear hx hc e ct cq ch;go_wp2_with fail
     go_roundw
     case rel=>exact⟨U+1,bj+1,_,mR,mY,mR,a7,dg,af⟩
     case measure=>simp[intOf];omega
    ·obtain rfl:U=lf:=by omega
     obtain⟨ps,aq⟩:∃e9,g.CJ K o++F=e9:=⟨_,rfl⟩
     have da:Hid (D5 D2 (Fk ps)):=Hd (by have h:=b1.out;rw[Dd (by rw[bp.out];exact AF _),aq]at h;exact h)
     have di:Hid (∀p∈ps,p.2<np):=Hd (fun p hp=>by
      rw[<-aq]at hp;rcases mA.1 hp with h1|h1
      ·have:=Pp K o p h1
       rw[al.out]at this;omega
      ·have:=(bn p h1).2
       rw[ag.out]at this;exact this)
     have dj:=Hd aq;clear aq b1;go_wp2_with fail
     clear k9 kb k5 ab kf aa lm lb ad;have dd:Hid (Gu w w8 (g.nt+1) (nC nK 0 0) []):=Hd ((Gu.start w (g.nt+1)).later (by rw[a3.out];exact ae));go_loopw [10,77] (fun ov kk wr=>∃(k:Nat) (Z:List (nU×(Nat×Nat))),k<=g.R.length+1/\kk=nE nM k/\Hid (Gu w wr (g.nt+1) ov Z)/\Hid (Gs wr t bj D2)/\Hid (Z.map (·.2)=(List.range k).filterMap fun k=>(ps.reverse.find? (fun p=>p.1==k)).map fun p=>(k,S.getD p.2 0))/\Z.length<=k) (fun _ kk _=>g.R.length+1-(intOf kk).toNat)
     case atStart=>exact⟨0,[],A0 _,rfl,dd,b2,Hd rfl,AF _⟩
     case round=>
      obtain⟨k,Z,hk,rfl,HL,b3,b5,e8⟩:=hrel;rename nS=>w9
      have a8:Hid (Below t w w9):=Hd (by have h:=HL.below;rw[a3.out]at h;exact h);obtain⟨k9,kb,k5,ab,kf,aa,lm,lb,ad⟩:=HZ w9 a8;obtain⟨Ao,co,cx⟩:=CS HL.row;obtain⟨zl,ax⟩:∃x,Z.length=x:=⟨_,rfl⟩
      have a9:=Hd ax;rw[ax]at e8 cx;subst cx;by_cases a5:k<g.R.length+1
      ·have a4:=MK b3 da (s:=k) mR
       have bt:Hid ((List.range (k+1)).filterMap (fun k=>(ps.reverse.find? (fun p=>p.1==k)).map fun p=>(k,S.getD p.2 0))=(List.range k).filterMap (fun k=>(ps.reverse.find? (fun p=>p.1==k)).map fun p=>(k,S.getD p.2 0))++((ps.reverse.find? (fun p=>p.1==k)).map fun p=>(k,S.getD p.2 0)).toList):=Hd (by rw[List.range_succ,List.filterMap_append];congr 1)
       have eh:(k:Int)<(g.R.length:Int)+1:=by omega
       clear ax;cases a0:Fk ps k with
       | none=>
        rw[a0]at a4;simp only[Option.getD_none,Option.isSome_none]at a4;have an:Hid (Z.map (·.2)=(List.range (k+1)).filterMap fun k=>(ps.reverse.find? (fun p=>p.1==k)).map fun p=>(k,S.getD p.2 0)):=Hd (by rw[bt.out,b5.out];unfold Fk at a0;rw[Option.map_eq_none_iff]at a0;rw[a0];simp)
        clear a0;go_wp2_with fail
        go_roundw
        case rel=>exact⟨k+1,Z,mR,mY,HL,b3,an,by rw[a9.out];omega⟩
        case measure=>simp[intOf];omega
       | some a6=>
        rw[a0]at a4;simp only[Option.getD_some,Option.isSome_some]at a4;obtain⟨pm,cy,dx⟩:=bT a0;have hj:a6<np:=by have:=di pm cy;omega
        have an:Hid ((List.range (k+1)).filterMap (fun k=>(ps.reverse.find? (fun p=>p.1==k)).map fun p=>(k,S.getD p.2 0))=Z.map (·.2)++[(k,S.getD a6 0)]):=Hd (by rw[bt.out,b5.out];unfold Fk at a0;obtain⟨y,J,e⟩:=Option.map_eq_some_iff.1 a0;rw[J,<-e];rfl)
        clear a0 cy dx;obtain⟨pp,ao⟩:∃x,P[a6]?=nJ x:=⟨_,eG (by rw[ag.out];exact hj)⟩
        have ai:=HM.later (w2:=w9) (by rw[a3.out];exact a8);have dp:=Hd (ai.AP.at_ a6 pp ao);have dn:=Hd (ai.AP.room pp (mG ao));obtain⟨ba,dr⟩:∃ba,Aa=nJ ⟨ba,0,nK⟩:=by
         rcases Bg ai.all with⟨_,h0⟩|⟨b,c',h1,_⟩
         ·rw[ag.out]at h0;omega
         ·cases h1;exact⟨b,rfl⟩
        subst dr;have kp:nQ w9 ⟨ba,a6,nK⟩=nJ (nF (pp.h,0)):=by rw[Bb ai.all a6 (by rw[ag.out];omega),pG,ao];rfl
        have eg:(a6:Int)<(np:Int):=by omega
        have ak:=Hd (PV dp);rw[dn.out]at ak;unfold AH.v at ak;obtain⟨C,c9⟩:∃x,S.getD a6 0=x:=⟨_,rfl⟩
        rw[c9]at ak an;have ed:=Le (g.nt+1) C;have ey:zl<=1000:=by omega
        clear ao ai c9;go_wp2_with (first
         | (
           go_at_call 199;refine ak.mono ?_;rintro e az ⟨ez,rfl,a1,a2,rfl,be,hb10⟩
           rw[lM]at be ⊢;have dk:=Hd be;have a7:=Hd hb10;clear be hb10)
         | (
           at_builtin;refine Du Zh (.tmp 87) (.tmp 98) rfl rfl (base:=w.heap.size) (n:=zl) (m:=1) (N:=zl+1) (xs:=Z.flatMap Iq) (news:=Iq (nC a1 (Bq (g.nt+1) C).length a2,(k,C))) rfl rfl (AV (by have h:=(HL.later a7).row;rw[a9.out]at h;exact h) (AE az (nO #[nE nM k,nC a1 (Bq (g.nt+1) C).length a2] 212))) (Ba.Ap (c:=1) (cs:=Iq (nC a1 (Bq (g.nt+1) C).length a2,(k,C))) (Ah.new az 212 _) rfl (fun u hu=>by unfold Iq at hu;simp at hu;rcases hu with rfl|rfl<;>rfl)) rfl mW mR (by have h1:=a8.size;have h2:=a7.size;have h3:=HL.below.size;simp;omega) ?_
           intro bl bz d5 q1 q2 q3;have de:Hid (Gu w d5 (g.nt+1) (nC bl (zl+1) bz) (Z++[(nC a1 (Bq (g.nt+1) C).length a2,(k,C))])):=Hd (by
            have hh:=(HL.later a7).later (AE az (nO #[nE nM k,nC a1 (Bq (g.nt+1) C).length a2] 212));have ht:(az.alloc (nO #[nE nM k,nC a1 (Bq (g.nt+1) C).length a2] 212)).ownsRow w 3 1 (nC a1 (Bq (g.nt+1) C).length a2) (Bq (g.nt+1) C).length ((Bq (g.nt+1) C).map AS):=by have h0:=DW (base':=w.heap.size) (dk.alloc (nO #[nE nM k,nC a1 (Bq (g.nt+1) C).length a2] 212)) HL.below.size;exact h0
            have hm:=hh.more (tv:=nC a1 (Bq (g.nt+1) C).length a2) (k:=k) (S:=C) ht (A:=bl) (c:=bz) (by rw[a9.out];exact q1) q2;rw[a9.out]at hm;exact hm)
           have db:Hid (Gs d5 t bj D2):=Hd (q2.map (((Aj.AJ (X:=fun _=>False) a7).map b3 id).alloc _));clear q1 q2 q3))
        go_roundw
        case rel=>exact⟨k+1,_,mR,mY,de,db,Hd (by rw[an.out,Bz];rfl),by rw[BS,a9.out];simp;omega⟩
        case measure=>simp[intOf];omega
      ·obtain rfl:k=g.R.length+1:=by omega
       clear ax;go_wp2_with fail
       go_ret;have hl:g.II S (g.CJ K o++F)=Z.map (·.2):=by rw[dj.out,b5.out];rfl
       rw[hl,lM,a9.out];exact⟨Ao,co,Z,rfl,rfl,HL⟩
end
