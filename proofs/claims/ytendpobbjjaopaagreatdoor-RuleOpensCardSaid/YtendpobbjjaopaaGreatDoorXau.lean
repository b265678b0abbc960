/- . -/
import Derived.Test.YtendpobbjjaopaaGreatDoorXas
set_option linter.all false
set_option maxRecDepth 100000
set_option maxHeartbeats 16000000
namespace Go.Proofs.YtendpobbjjaopaaGreatDoor
open Go.RowKit Go.Proofs.Tryz
open Value renaming slice→oG,int→oH,pointer→oI,bool→oK
open Option renaming some→oM,none→oN
open IntKind renaming i64→oO
open Obj renaming cells→oP
open Ending renaming returned→oQ
open World renaming cell?→oT
open Go renaming World→oU,Value→oV
variable{F:List It}{i k:Nat}{x:It}{fv:oV}{q:Gz.Cw}{A:Nat->Prop}
section
variable {w1 w3 wr:oU} {mb fb n c:Nat} {v lv rv tlv uv cv bv av ev:oV} {g:Gz} {base:List Nat} {P:List AH} {S:List Nat} {ED:List (Option AH×Edge)} {FR:List (oV×List It)}
def Od(w1 w3 wr:oU)(mb fb n c:Nat)(v lv rv tlv uv cv bv ev:oV)(g:Gz)(base:List Nat)(P:List AH)(S:List Nat)(ED:List (Option AH×Edge))(FR:List (oV×List It))(e:Ending)(w':oU):Prop:=
 e=oQ P.length/\∃i t,Mk w1 w3 w' mb fb n c v lv rv tlv uv cv bv i ev g base (P++[t]) (S++[0]) ED FR/\AI w1 [217,218] wr w'/\∀(q:Option AH) (T:Nat),Cu wr (g.nt+1) P q T->Cu w' (g.nt+1) (P++[t]) q T
def SM(a6:GN w1 v g)(h:Mk w1 w3 wr mb fb n c v lv rv tlv uv cv bv av ev g base P S ED FR)(hP:P.length<=1000000):() 131 #[(mb,0)] wr (Od w1 w3 wr mb fb n c v lv rv tlv uv cv bv ev g base P S ED FR):=by
 have ah:=a6.fit.nt;obtain⟨C,R,AN,cN,AR,cR,rfl,-,-⟩:=a6.open_;obtain⟨o,p,ae⟩:∃A c,av=oG A P.length c:=by
  rcases Bj h.all with⟨e1,e2⟩|⟨b,c,e,_⟩
  ·exact⟨oN,0,by rw[e1,e2]⟩
  ·exact⟨_,c,e⟩
 subst ae;have T:=Hd h;have z0:oT wr (mb,0)=oM (oG C g.nt R):=Ah.cell h.Aj 0;have a4:oT wr (mb,10)=oM (oG o P.length p):=Ah.cell h.Aj 10;have ml:=h.Aj.lt;have ad:=Hd h.AA.size;have aa:Hid (() 184 #[oH oO ((g.nt:Int)+1)] wr.drew fun e w'=>e=oQ (wr.heap.size+1,0)/\AQ w' ⟨wr.heap.size+1,wr.heap.size,g.nt+1⟩ 0/\Below wr wr w'):=Hd (by refine(Mm (w:=wr.drew) (n:=g.nt+1) nX nX).mono ?_;rintro e w' ⟨rfl,h1,h2⟩;exact⟨rfl,h1,((Below.refl _ wr).drew).trans h2⟩)
 obtain⟨l,a3⟩:∃k,P.length=k:=⟨_,rfl⟩
 have J:=Hd a3;rw[a3]at a4 hP;have af:IntKind.i64.wrap ((g.nt:Int)+1)=(g.nt:Int)+1:=by rw[IntKind.wrap_i64];omega
 have a5:Hid (∀Y,Below wr wr Y->oT Y (mb,10)=oM (oG o l p)/\oT Y (mb,0)=oM (oG C g.nt R)):=Hd (fun Y hy=>⟨(hy.cell (p:=⟨mb,10,oN⟩) ml).trans a4,(hy.cell (p:=⟨mb,0,oN⟩) ml).trans z0⟩);clear h a3;unfold Od;go_enter func131,ntmps131
 go_upto_region 1 with fail
 refine DY 17 (fun(v:oU)=>oT v (mb,10)=oM (oG o l p)/\oT v (mb,0)=oM (oG C g.nt R)) nZ ?_;have j:(fun(v:oU)=>oT v (mb,10)=oM (oG o l p)/\oT v (mb,0)=oM (oG C g.nt R)) wr.drew:=⟨a4,z0⟩
 refine AF 0 j ?_;simp only[AD,AE];refine AF 1 j ?_;simp only[AD,AE];refine AF 2 j ?_;simp only[AD,AE];refine AF 3 j ?_;simp only[AD,AE];refine AF 4 j ?_;simp only[AD,AE];refine AF 5 j ?_;simp only[AD,AE];refine AF 6 j ?_;simp only[AD,AE];refine AF 7 j ?_;simp only[AD,AE];refine AF 8 j ?_;simp only[AD,AE];refine AF 9 j ?_;simp only[AD,AE];refine AF 10 j ?_;simp only[AD,AE];refine AF 11 j ?_;simp only[AD,AE];refine Bm 12 nZ rfl rfl (fun K i=>?_);go_simp
 refine aa.out.mono ?_;rintro e t ⟨rfl,a7,a0⟩;have ab:=Hd a7;have a8:=Hd a0;have I:Hid (Below wr wr (t.alloc (oP #[(wr.heap.size+1,0)] 218))):=Hd (a0.alloc a0.size _);clear a7 a0;refine i.out _ _ (fun _=>a5.out t a8.out) ?_;clear i K j;refine Bm 13 nZ rfl rfl (fun K i=>?_);go_simp;refine i.out _ _ (fun _=>a5.out _ I.out) ?_;clear i K;refine Hn 14 nZ rfl rfl rfl (fun K i=>?_);refine Eu TU (.tmp 7) (.tmp 16) rfl (base:=w3.heap.size) (n:=l) (m:=1) (N:=l+1) (v:=oG o l p) (src:=oG (t,0) 1 1) (xs:=P.map AH.v) (news:=[oI (oM ⟨wr.heap.size+1,0,oN⟩)]) rfl rfl (AU (by have h:=T.out.all;rw[J.out]at h;exact h) I.out) (Be.Aj (c:=1) (cs:=[oI (oM ⟨wr.heap.size+1,0,oN⟩)]) (Ah.new t 218 _) rfl oE) rfl oB nX (by have:=ad.out;have:=I.out.size;omega) ?_
 intro A4 c4 w4 q1 q2 q3;have U:Hid (Ah w4 mb 217 _):=Hd (q2.Aj (T.out.Aj.below I.out T.out.Aj.lt) (.inr nY));have y0:oT w4 (mb,0)=oM (oG C g.nt R):=Ah.cell U.out 0;have a1:oT w4 (mb,10)=oM (oG o P.length p):=Ah.cell U.out 10;rw[J.out]at a1;have yf:=Ah.frozen U.out 10;have yl:=U.out.lt;have a2:=Hd (T.out.fQ (W:=t.alloc (oP #[(wr.heap.size+1,0)] 218)) I.out (t:=⟨wr.heap.size+1,wr.heap.size,g.nt+1⟩) (ab.out.later (AG t _)) rfl ⟨oA,Ay _⟩ (A:=A4) (c2:=c4) (by rw[J.out];exact q1) q2)
 rw[J.out]at a2;clear q1 q2 q3;refine i.out _ _ (fun _=>⟨a1,y0⟩) ?_;clear i K;simp only[List.set_cons_succ,List.set_cons_zero];refine Bm 15 nZ rfl rfl (fun K i=>?_);go_simp;refine i.out _ _ (fun _=>⟨a1,y0⟩) ?_;clear i K;refine Bm 16 nZ rfl rfl (fun K i=>?_);go_simp;refine i.out _ _ (fun _=>⟨a1,y0⟩) ?_;clear i K;refine Bm 17 nZ rfl rfl (fun K i=>?_);go_simp;refine i.out _ _ (fun h=>absurd rfl h) ?_;clear i K;refine D0 nZ ?_ _;have a9:=Hd a2.out.1;have ai:(w4.setCell (mb,10) (oG A4 (l+1) c4)).cell? (mb,10)=oM (oG A4 (l+1) c4):=Ah.cell a9.out.Aj 10
 have ag:IntKind.i64.wrap ((l:Int)+1-1)=(l:Int):=by rw[IntKind.wrap_i64];omega
 go_wp2_with fail
 go_ret;exact⟨FU J.out.symm,_,_,a2.out⟩
def iE(I:F[i]?=oM x)(C:x.1=k)(p:∀j,j<i->∀y,F[j]?=oM y->y.1≠k):F.find? (fun f=>f.1==k)=oM x:=by rw[List.find?_eq_some_iff_getElem];obtain⟨l,o⟩:=sG.1 I;refine⟨by simp[C],i,l,o,fun j t=>?_⟩;have:=p j t _ (eG nX);simp[this]
def iY(l:∀j,j<F.length->∀y,F[j]?=oM y->y.1≠k):F.find? (fun f=>f.1==k)=oN:=by rw[List.find?_eq_none];intro y o;obtain⟨j,i,e⟩:=List.mem_iff_getElem.1 o;have:=l j i y (by rw[eG i,e]);simp[this]
def Qo{j:Type}(l:List j)(i:Nat)(x:j)(h:l[i]?=oM x):l.set i x=l:=by obtain⟨o,p⟩:=sG.1 h;rw[<-p];exact List.set_getElem_self o
def MM(w1 w3 wr:oU)(mb fb n c:Nat)(v lv rv tlv uv cv bv ev:oV)(g:Gz)(base:List Nat)(P:List AH)(S:List Nat)(ED:List (Option AH×Edge))(FR:List (oV×List It))(s:Nat)(r:Nat×Nat×List It)(e:Ending)(w':oU):Prop:=
 e=oQ r.1/\∃l i j,Mk w1 w3 w' mb fb n c v lv rv tlv uv cv bv l ev g base i (S++List.replicate (i.length-P.length) 0) ED j/\i.length=r.2.1/\j.map (·.2)=(FR.map (·.2)).set s r.2.2/\AI w1 [217,218,278,280] wr w'/\∀(q:Option AH) (T:Nat),Cu wr (g.nt+1) P q T->Cu w' (g.nt+1) i q T
def Xq(ad:GN w1 v g)(h:Mk w1 w3 wr mb fb n c v lv rv tlv uv cv bv av ev g base P S ED FR)(hP:P.length<=100000){s:Nat}(l:FR[s]?=oM (fv,F))(hF:F.length<=100000):Calls Tryz.prog 190 #[oI (oM ⟨mb,0,oN⟩),oH oO s,oH oO k] wr (MM w1 w3 wr mb fb n c v lv rv tlv uv cv bv ev g base P S ED FR s (Gz.Dg P.length F k)):=by
 have hs:s<n:=by have h1:=(sG.1 l).1;have h2:=h.fin.len;omega
 obtain⟨p,I,b6⟩:∃A c,fv=oG A F.length c:=by
  rcases Bj (h.fin.own s _ l) with⟨e1,e2⟩|⟨b,c,e,_⟩
  ·have b0:fv=oG oN 0 0:=e1
   have b1:F.length=0:=e2;exact⟨oN,0,by rw[b0,b1]⟩
  ·exact⟨_,c,e⟩
 subst b6;have HM:=Hd h;have HY:=Hd l;have a9:Hid (CQ wr (oG p F.length I) F):=Hd (CQ.own (h.fin.own s _ l) nX);have ag:oT wr ⟨mb,12,oN⟩=oM (oG (oM ⟨fb,0,oN⟩) n c):=by obtain⟨x0,x1,x2,x3,rfl⟩:=h.vf;exact Ah.cell h.Aj 12
 have zf:oT wr ⟨fb,s,oN⟩=oM (oG p F.length I):=by rw[Bh h.fin.row s nX,pG,l];rfl
 have ml:=h.Aj.lt;have fl:=(B6 h.fin.row fb rfl).1;have be:(s:Int)<(n:Int):=by omega
 have ao:=Hd ad;have an:Hid (P.length<=100000):=Hd hP;obtain⟨lf,a3⟩:∃ba,F.length=ba:=⟨_,rfl⟩
 have R:=Hd a3;have HZ:Hid (∀Y,Below wr.heap.size wr Y->oT Y ⟨mb,12,oN⟩=oM (oG (oM ⟨fb,0,oN⟩) n c)/\oT Y ⟨fb,s,oN⟩=oM (oG p lf I)):=Hd (fun Y l=>⟨(l.cell (p:=⟨mb,12,oN⟩) ml).trans ag,by rw[<-a3];exact(l.cell (p:=⟨fb,s,oN⟩) fl).trans zf⟩);rw[a3]at zf a9 hF;clear h ad l hP a3 hs;go_enter func190,ntmps190
 go_wp2_with fail
 go_loopw [18] (fun ii w'=>∃i:Nat,i<=lf/\ii=oH oO i/\Hid (Below wr.heap.size wr w')/\Hid (∀a0,a0<i->∀y,F[a0]?=oM y->y.1≠k)) (fun ii _=>lf-(intOf ii).toNat)
 case atStart=>exact⟨0,AX _,rfl,Hd (Below.refl _ _),Hd (fun a0 hj=>by omega)⟩
 case round=>
  obtain⟨i,hi,rfl,t,HN⟩:=hrel;rename oU=>w8
  by_cases b8:i<lf
  ·obtain⟨⟨xa,xb⟩,hx⟩:∃x,F[i]?=oM x:=⟨_,eG (by rw[R.out];exact b8)⟩
   obtain⟨⟨A',c',e,hc⟩,-,-⟩:=a9.later t;have e2:p=A':=by cases e;rfl
   subst e2;obtain⟨b,off,rfl,hb,d0,d1⟩:=hc i _ hx;simp only at d0 d1;have HX:=Hd hx;clear hc e hx;by_cases hk:xa=k
   ·have b9:((xa:Int)==(k:Int))=true:=by rw[hk];simp
    have HK:=Hd hk;clear hk;go_wp2_with fail
    go_ret;have b5:=iE HX (by exact HK) HN;have hM:=HM.later (t.trans ((AG w8 (oP #[oH oO xa,oH oO xb] 280)).mono t.size));unfold MM Gz.Dg;rw[b5];refine⟨rfl,av,P,FR,?_,rfl,?_,AI.AJ (t.trans ((AG w8 _).mono t.size)),fun q aa hq=>hq.later (t.trans ((AG w8 _).mono t.size))⟩
    ·rw[Nat.sub_self,List.replicate_zero,List.append_nil]
     exact hM
    ·exact(Qo _ s F (by rw[pG,HY.out];rfl)).symm
   ·have b9:((xa:Int)==(k:Int))=false:=by rw[bN];omega
    have HK:=Hd hk;clear hk;go_wp2_with fail
    go_roundw
    case rel=>exact⟨i+1,nX,oD,Hd (t.trans ((AG w8 _).mono t.size)),Hd (fun a0 hj y l=>by
     by_cases b7:a0=i
     ·subst b7
      rw[HX.out]at l;cases l
      exact HK
     ·exact HN a0 nX y l)⟩
    case measure=>simp[intOf];omega
  ·obtain rfl:i=lf:=by omega
   have a8:Hid (Gz.Dg P.length F k=(P.length,P.length+1,F++[(k,P.length)])):=Hd (by unfold Gz.Dg;rw[iY (by rw[R.out];exact HN.out)])
   have a4:=Hd (SM ao (HM.later t) (by have:=an.out;omega));unfold Od at a4;obtain⟨J,a7⟩:∃k,P.length=k:=⟨_,rfl⟩
   have a2:=Hd a7;rw[a7]at a4;clear a7;go_upto_region 8 with(
       go_at_call 131;refine a4.mono ?_;rintro e C ⟨rfl,az,a1,af,ae,ab⟩
       have o:=Hd af;have ar:=Hd ae;have al:=Hd ab;clear af ae ab)
   have ai:oT C ⟨mb,12,oN⟩=oM (oG (oM ⟨fb,0,oN⟩) n c):=by obtain⟨x0,x1,x2,x3,rfl⟩:=o.vf;exact Ah.cell o.Aj 12
   have aj:oT C ⟨fb,s,oN⟩=oM (oG p i I):=by rw[Bh o.fin.row s nX,pG,HY.out,<-R.out];rfl
   have bb:=o.Aj.lt;have b2:=(B6 o.fin.row fb rfl).1;have aw:Hid (C.ownsRow w3.heap.size 280 2 (oG p i I) i (F.flatMap Bg)):=Hd (by have h:=o.fin.own s _ HY;simp only at h;rw[R.out]at h;exact h);have ax:Hid (∀Y,Below C.heap.size C Y->oT Y ⟨mb,12,oN⟩=oM (oG (oM ⟨fb,0,oN⟩) n c)/\oT Y ⟨fb,s,oN⟩=oM (oG p i I)):=Hd (fun Y l=>⟨(l.cell (p:=⟨mb,12,oN⟩) bb).trans ai,(l.cell (p:=⟨fb,s,oN⟩) b2).trans aj⟩);have ay:=Hd o.AA.size;have bf:s<n:=by omega
   clear ag zf ml fl;refine DY 18 (fun(v:oU)=>oT v ⟨mb,12,oN⟩=oM (oG (oM ⟨fb,0,oN⟩) n c)/\oT v ⟨fb,s,oN⟩=oM (oG p i I)) nZ ?_;have j:(fun(v:oU)=>oT v ⟨mb,12,oN⟩=oM (oG (oM ⟨fb,0,oN⟩) n c)/\oT v ⟨fb,s,oN⟩=oM (oG p i I)) C.drew:=⟨ai,aj⟩
   refine AF 0 j ?_;simp only[AD,AE];refine AF 1 j ?_;simp only[AD,AE];refine AF 2 j ?_;simp only[AD,AE];refine AF 3 j ?_;simp only[AD,AE];refine AF 4 j ?_;simp only[AD,AE];refine AF 5 j ?_;simp only[AD,AE];refine AF 6 j ?_;simp only[AD,AE];refine AF 7 j ?_;simp only[AD,AE];refine AF 8 j ?_;simp only[AD,AE];refine AF 9 j ?_;simp only[AD,AE];refine AF 10 j ?_;simp only[AD,AE];refine AF 11 j ?_;simp only[AD,AE];refine AF 12 j ?_;simp only[AD,AE];refine AF 13 j ?_;simp only[AD,AE]
   refine AF 14 j ?_;simp only[AD,AE];refine Bm 15 nZ rfl rfl (fun K T=>?_);go_simp;refine T _ _ (fun _=>?_) ?_
   ·exact ax _ (((Below.refl _ C).alloc (Ay _) _).drew)
   clear T K j;refine Hn 16 nZ rfl rfl rfl (fun K T=>?_);refine Eu Yo (.tmp 42) (.tmp 46) rfl (base:=w3.heap.size) (n:=i) (m:=1) (N:=i+1) (v:=oG p i I) (src:=oG (oM ⟨C.heap.size,0,oN⟩) 1 1) (xs:=F.flatMap Bg) (news:=Bg (k,J)) rfl rfl (AU (aw.alloc _) ((Below.refl _ _).drew)) (Be.Aj (c:=1) (cs:=Bg (k,J)) (Ah.drew (Ah.new C 280 _)) rfl (fun u hu=>by unfold Bg at hu;simp at hu;rcases hu with rfl|rfl<;>rfl)) rfl oB nX (by have:=ay.out;simp;omega) ?_;intro A7 c7 w7 q1 q2 q3;have a5:=Hd (o.ended (((Below.refl _ C).alloc (Ay _) (oP #[oH oO k,oH oO J] 280)).drew) HY (x:=(k,J)) (A:=A7) (c2:=c7) (by simp only[R.out];exact q1) q2 (by simp only[R.out];exact q3))
   simp only[R.out]at a5;have a6:Hid (w7.ownsRow w1.heap.size 278 1 (oG (oM ⟨fb,0,oN⟩) n c) n (FR.map (·.1))):=Hd (q2.own (AU (o.fin.row.alloc _) ((Below.refl _ _).drew)) (.inr nY));have ak:oT w7 ⟨fb,s,oN⟩=oM (oG p i I):=by rw[Bh a6.out s nX,pG,HY.out,<-R.out];rfl
   have bd:=GD a6 s;have bh:=(B6 a6 fb rfl).1;have au:Hid (Ah w7 mb 217 _):=Hd (q2.Aj (Ah.drew (o.Aj.alloc _)) (.inr nY));have ah:oT w7 ⟨mb,12,oN⟩=oM (oG (oM ⟨fb,0,oN⟩) n c):=by have h:=au.out;obtain⟨x0,x1,x2,x3,e⟩:=o.vf;rw[e]at h;exact Ah.cell h 12
   have aq:Hid (AI w1.heap.size [280,278] ((C.alloc (oP #[oH oO k,oH oO J] 280)).drew) (w7.setCell ⟨fb,s,oN⟩ (oG A7 (i+1) c7))):=Hd (by obtain⟨bc,b3⟩:=o.fin.Aj;have b4:=q2.Aj (Ah.drew (b3.alloc (oP #[oH oO k,oH oO J] 280))) (.inr nY);exact(q2.mono o.lo.2.2 (fun a1 U=>by simp at U;simp[U])).trans (((AI.refl w1.heap.size [280,278] w7).EH b4 o.lo.2.1 oA s _)))
   clear q1 q2 q3;refine T _ _ (fun _=>⟨ah,ak⟩) ?_;clear T K;simp only[List.set_cons_succ,List.set_cons_zero];have j:(fun(v:oU)=>oT v ⟨mb,12,oN⟩=oM (oG (oM ⟨fb,0,oN⟩) n c)/\oT v ⟨fb,s,oN⟩=oM (oG p i I)) w7:=⟨ah,ak⟩
   refine AF 17 j ?_;simp only[AD,AE];clear j;refine Bm 18 nZ rfl rfl (fun K T=>?_);go_simp;refine T _ _ (fun h=>absurd rfl h) ?_;clear T K;refine D0 nZ ?_ _;go_wp2_with fail
   go_ret;unfold MM;rw[a2.out]at a8;rw[a2.out,a8.out];refine⟨rfl,az,P++[a1],FR.set s (oG A7 (i+1) c7,F++[(k,J)]),?_,?_,?_,(AI.AJ t).trans ((ar.mono (T':=[217,218,278,280]) (Ay _) (fun a1 U=>by simp at U;rcases U with rfl|rfl<;>decide)).trans (a5.2.mono (T':=[217,218,278,280]) (Ay _) (fun a1 U=>by simp at U;rcases U with rfl|rfl<;>decide))),fun q aa hq=>?_⟩
   ·have hM:=a5.1
    have e:S++List.replicate ((P++[a1]).length-J) 0=S++[0]:=by rw[Cb,a2.out,List.length_singleton,Nat.add_sub_cancel_left];rfl
    rw[e];exact hM
   ·simp[a2.out]
   ·rw[List.map_set]
   ·exact((al q aa (hq.later t)).later (((Below.refl _ C).alloc (Ay _) (oP #[oH oO k,oH oO J] 280)).drew)).keeps (aq) nY nY
end
structure NS(w1 w3:oU)(mb fb:Nat)(v lv rv tlv uv cv:oV)(g:Gz)(V:List (oV×oV))(L E:List (List It))(T:List (List (Nat×Bool)))(CC:List (List AV)):Prop where
 gn:GN w1 v g
 Gy:FE w1 lv V L E
 Ha:Dq (Sx mb fb w3.heap.size) w3 rv (g.R.length+1) g.right
 Ke:F8 (Sx mb fb w3.heap.size) w3 (g.nt+1) tlv (g.R.length+1) T
 Qe:Dq (Sx mb fb w3.heap.size) w3 uv (g.top+1) g.CJ
 Ta:Jg (Sx mb fb w3.heap.size) w3 (g.nt+1) cv (g.top+1) CC
 Mu:∀k,k<=g.R.length->(T.getD k []).length=(g.right k).length
 YM:∀l∈CC,∀c∈l,c.s<=g.top
 nU:CC.length=g.top+1
variable{T:List (List (Nat×Bool))}{L:List (List It)}
def Vt(xs:Bool)(i:Nat)(c:AV)(own:Bool)(t:Nat×Bool):(CH xs i c own t).1.s=c.s:=by
 unfold CH;split
 ·rfl
 ·split
  ·rfl
  ·split<;>rfl
theorem iH{g:Gz}(t:g.Fit){xs:Bool}{p:List AV×List Nat}(h:∀c∈p.1,c.s<=g.top):∀c∈(g.FH T i xs p k).1,c.s<=g.top:=by
 unfold Gz.FH;split
 ·exact h
 ·rename_i y r I
  have J:y<=g.top:=t.M4 (k:=k) (by rw[I];simp);split
  ·exact h
  ·split
   ·rename_i j R
    intro c o;rcases List.mem_or_eq_of_mem_set o with l|l
    ·exact h c l
    ·rw[l,Vt]
     rw[dG];cases C:p.1[j]? with
     | none=>exact AX _
     | some d=>exact h d (mG C)
   ·intro c o
    rcases mA.1 o with l|l
    ·exact h c l
    ·rw[mS.1 l,Vt]
     exact J
theorem Tp{g:Gz}(j:g.Fit){T:List (List (Nat×Bool))}{i:Nat}{xs:Bool}:∀(l:List Nat) (p:List AV×List Nat),(∀c∈p.1,c.s<=g.top)->∀c∈(l.foldl (g.FH T i xs) p).1,c.s<=g.top
 | [],p,h=>h
 | k::l,p,h=>Tp j l _ (iH j h)
theorem Rl{g:Gz}(o:g.Fit){T:List (List (Nat×Bool))}:∀(f:Nat) (out:List AV) (l:List Nat) (r:List AV),(∀c∈out,c.s<=g.top)->g.Hf T f out l=oM r->∀c∈r,c.s<=g.top
 | 0,out,l,r,_,j=>by simp[Gz.Hf]at j
 | f+1,out,[],r,h,j=>by
  unfold Gz.Hf at j;cases j
  exact h
 | f+1,out,i::l,r,h,j=>by
  unfold Gz.Hf at j;split at j
  ·cases j
  ·exact Rl o f _ _ r (Tp o _ _ h) j
theorem UB{g:Gz}(I:g.Fit){T:List (List (Nat×Bool))}:∀(N:Nat) (j:List (List AV)),N<=g.top+1->g.Di T N=oM j->∀l∈j,∀c∈l,c.s<=g.top
 | 0,j,_,h=>by
  unfold Gz.Di at h;cases h
  intro l o;cases o
 | N+1,j,hN,h=>by
  unfold Gz.Di at h;cases C:g.Di T N with
  | none=>rw[C]at h;cases h
  | some U=>
   rw[C]at h;have J:=UB I N U nX C;simp only at h;intro l o;split at h
   ·cases h
    rcases mA.1 o with i|i
    ·exact J l i
    ·rw[mS.1 i]
     intro c t;cases t
   ·split at h
    ·cases h
    ·rename_i r R
     cases h
     rcases mA.1 o with i|i
     ·exact J l i
     ·rw[mS.1 i]
      exact Rl I _ _ _ r (fun c t=>by rw[mS.1 t];simp only;omega) R
def Ez(p q:Gz.Cw):Prop:=p.1<=q.1/\p.2.1.length<=q.2.1.length/\p.2.2.length<=q.2.2.length
def Ez.refl(p:Gz.Cw):Ez p p:=⟨Ay _,Ay _,Ay _⟩
def Ez.trans{p r:Gz.Cw}(h:Ez p q)(k:Ez q r):Ez p r:=⟨AW h.1 k.1,AW h.2.1 k.2.1,AW h.2.2 k.2.2⟩
def NR(n:Nat)(F:List It)(k:Nat):n<=(Gz.Dg n F k).2.1/\F.length<=(Gz.Dg n F k).2.2.length:=by
 unfold Gz.Dg;split
 ·exact⟨Ay _,Ay _⟩
 ·exact⟨Nat.le_succ _,oA⟩
theorem Mv{g:Gz}{L E:List (List It)}{base:List Nat}{st at_ j:Nat}{self i:Bool}:∀(l:List Nat) (p q:Gz.Cw),g.Ft L E base st at_ j self i l p=oM q->Ez p q
 | [],p,q,h=>by
  unfold Gz.Ft at h;cases h
  exact Ez.refl _
 | k::l,p,q,h=>by
  unfold Gz.Ft at h;split at h
  ·refine Ez.trans ?_ (Mv l _ q h)
   obtain⟨o,t⟩:=NR p.1 p.2.1 k;refine⟨o,t,?_⟩;show p.2.2.length<=(if i=true then p.2.2 else _).length;split
   ·exact Ay _
   ·simp
  ·split at h
   ·cases h
   ·refine Ez.trans ?_ (Mv l _ q h)
    refine⟨Ay _,Ay _,?_⟩;show p.2.2.length<=(if i=true then p.2.2 else _).length;split
    ·exact Ay _
    ·simp
theorem PI{g:Gz}{L E:List (List It)}{base:List Nat}{st at_:Nat}{t:Nat×Bool}:∀(l:List AV) (p q:Gz.Cw),g.Gc L E base st at_ t l p=oM q->Ez p q
 | [],p,q,h=>by
  unfold Gz.Gc at h;cases h
  exact Ez.refl _
 | c::l,p,q,h=>by
  unfold Gz.Gc at h;split at h
  ·cases h
  ·rename_i j i
   exact(Mv _ _ _ i).trans (PI l _ q h)
def Tf{g:Gz}{E:List (List It)}{base:List Nat}{i:List (List AV)}{st at_:Nat}{p:Gz.Cw}(h:g.GK L E base T i st at_ x p=oM q):Ez p q:=by
 unfold Gz.GK at h;split at h
 ·cases h;exact Ez.refl _
 ·split at h
  ·cases h
  ·split at h
   ·refine Ez.trans ?_ (PI _ _ _ h)
    exact⟨Ay _,Ay _,oA⟩
   ·cases h
    exact⟨Ay _,Ay _,oA⟩
theorem Mt{g:Gz}{L E:List (List It)}{base:List Nat}{T:List (List (Nat×Bool))}{i:List (List AV)}{st:Nat}:∀(l:List It) (a:Nat) (p q:Gz.Cw),g.EJ L E base T i st l a p=oM q->Ez p q
 | [],a,p,q,h=>by
  unfold Gz.EJ at h;cases h
  exact Ez.refl _
 | x::l,a,p,q,h=>by
  unfold Gz.EJ at h;split at h
  ·cases h
  ·rename_i o j
   exact(Tf j).trans (Mt l _ _ q h)
def Small(L:List (List It))(base:List Nat):Prop:=base.length=L.length/\(∀b∈base,b<=100000)/\∀l∈L,l.length<=100000
theorem dF{base:List Nat}(J:Small L base){r:Nat}(h:Gz.Ka L base i x=oM r):r<=1000000:=by
 have l:=WI h;unfold Gz.Ka at h;obtain⟨j,C,rfl⟩:=Option.map_eq_some_iff.1 h;obtain⟨R,o,t⟩:=J;have T:base.getD i 0<=100000:=by
  rw[dG];cases I:base[i]? with
  | none=>exact AX _
  | some b=>exact o b (mG I)
 have U:(L.getD i []).length<=100000:=by rw[dG,eG l];exact t _ (List.getElem_mem l)
 have:=(sG.1 (U2 C).1).1;omega
def NW{g:Gz}{E:List (List It)}{base:List Nat}(j:Small L base){r:Nat}(h:g.Hc L E base i x=oM r):r<=1000000:=by
 unfold Gz.Hc at h;split at h
 ·cases h
 ·exact dF j h
def TT:List TypeId:=[217,218,278,280,272]
structure Dc(w1 w3 w0 wr:oU)(mb fb n c:Nat)(v lv rv tlv uv cv bv av ev:oV)(g:Gz)(base:List Nat)(P:List AH)(S:List Nat)(ED:List (Option AH×Edge))(FR:List (oV×List It))(FR0:List (List It))(st n0:Nat)(p:Gz.Cw):Prop where
 By:Mk w1 w3 wr mb fb n c v lv rv tlv uv cv bv av ev g base P (S++List.replicate (P.length-n0) 0) ED FR
 len:P.length=p.1
 row:∃fv,FR[st]?=oM (fv,p.2.1)
 rows:FR.map (·.2)=FR0.set st p.2.1
 JJ:ED.map (·.2)=p.2.2
 keeps:AI w1 TT w0 wr
 ge:n0<=p.1
variable{v:oV}{n:Nat}
section
variable {w1 w3 w0 wr w2 W W2:oU} {mb fb n c:Nat} {v lv rv tlv uv cv bv av ev:oV} {g:Gz} {base:List Nat} {P:List AH} {S:List Nat} {ED:List (Option AH×Edge)} {FR:List (oV×List It)} {FR0:List (List It)} {st n0:Nat} {p:Gz.Cw}
def Dc.later(h:Dc w1 w3 w0 wr mb fb n c v lv rv tlv uv cv bv av ev g base P S ED FR FR0 st n0 p)(i:Below wr wr w2):Dc w1 w3 w0 w2 mb fb n c v lv rv tlv uv cv bv av ev g base P S ED FR FR0 st n0 p:=
 ⟨h.By.later i,h.len,h.row,h.rows,h.JJ,h.keeps.trans (AI.AJ i),h.ge⟩
def Dc.LF(h:Dc w1 w3 w0 wr mb fb n c v lv rv tlv uv cv bv av ev g base P S ED FR FR0 st n0 p)(o:Below wr wr W){x:Option AH×Edge}(C:Cu wr (g.nt+1) P x.1 x.2.set){A:Option Addr}{c2:Nat}(I:W2.ownsRow w3 272 4 (oG A (ED.length+1) c2) (ED.length+1) (ED.flatMap Dw++Dw x))(J:AI w3 [272] W W2) :
  Dc w1 w3 w0 (W2.setCell (mb,11) (oG A (ED.length+1) c2)) mb fb n c v lv rv tlv uv cv bv av (oG A (ED.length+1) c2) g base P S (ED++[x]) FR FR0 st n0 (p.1,p.2.1,p.2.2++[x.2])/\AI w1 [217,272] wr (W2.setCell (mb,11) (oG A (ED.length+1) c2)):=by
 obtain⟨l,i⟩:=h.By.LF o C I J;refine⟨⟨l,h.len,h.row,h.rows,by rw[BB,h.JJ];rfl,h.keeps.trans (i.mono (Ay _) (fun t j=>by simp at j;rcases j with rfl|rfl<;>decide)),h.ge⟩,i⟩
def Dc.ended(h:Dc w1 w3 w0 wr mb fb n c v lv rv tlv uv cv bv av ev g base P S ED FR FR0 st n0 p)(a0:st<FR0.length){e:Ending}(he:MM w1 w3 wr mb fb n c v lv rv tlv uv cv bv ev g base P (S++List.replicate (P.length-n0) 0) ED FR st (Gz.Dg p.1 p.2.1 k) e w2) :
  e=oQ (oH oO (Gz.Dg p.1 p.2.1 k).1)/\∃l i j,Dc w1 w3 w0 w2 mb fb n c v lv rv tlv uv cv bv l ev g base i S ED j FR0 st n0 ((Gz.Dg p.1 p.2.1 k).2.1,(Gz.Dg p.1 p.2.1 k).2.2,p.2.2)/\AI w1 [217,218,278,280] wr w2/\∀(q:Option AH) (T:Nat),Cu wr (g.nt+1) P q T->Cu w2 (g.nt+1) i q T:=by
 obtain⟨J,l,i,j,R,U,o,t,h6⟩:=he;obtain⟨g1,g2⟩:=NR p.1 p.2.1 k;have a2:=h.ge;have a3:=h.len;refine⟨J,l,i,j,⟨?_,U,?_,?_,h.JJ,h.keeps.trans (t.mono (Ay _) (fun a4 I=>by simp at I;rcases I with rfl|rfl|rfl|rfl<;>decide)),by simp only;omega⟩,t,h6⟩
 ·have e:S++List.replicate (P.length-n0) 0++List.replicate (i.length-P.length) 0=S++List.replicate (i.length-n0) 0:=by
   rw[List.append_assoc,List.replicate_append_replicate];congr 2;omega
  rw[<-e];exact R
 ·have C:(j.map (·.2))[st]?=oM (Gz.Dg p.1 p.2.1 k).2.2:=by
   rw[o,tG];rw[h.rows,List.length_set];exact a0
  rw[pG]at C;obtain⟨y,hy,a1⟩:=Option.map_eq_some_iff.1 C;exact⟨y.1,by rw[hy,<-a1]⟩
 ·rw[o,h.rows,List.set_set]
end
section
variable {w1 w3 w0 wr:oU} {mb fb n c:Nat} {v lv rv tlv uv cv bv av ev:oV} {g:Gz} {V:List (oV×oV)} {L E:List (List It)} {T:List (List (Nat×Bool))} {CC:List (List AV)} {base:List Nat} {P:List AH} {S:List Nat} {ED:List (Option AH×Edge)} {FR:List (oV×List It)} {FR0:List (List It)} {st n0:Nat} {p:Gz.Cw}
def Mk.cells{j l o t:oV}(h:Mk w1 w3 wr mb fb n c (.agg #[j,l,o,t]) lv rv tlv uv cv bv av ev g base P S ED FR) :
  (oT wr (mb,0)=oM j/\oT wr (mb,1)=oM l/\oT wr (mb,2)=oM o/\oT wr (mb,3)=oM t)/\oT wr (mb,4)=oM lv/\oT wr (mb,5)=oM rv/\oT wr (mb,6)=oM tlv/\oT wr (mb,7)=oM uv/\oT wr (mb,8)=oM cv/\oT wr (mb,9)=oM bv/\oT wr (mb,10)=oM av/\oT wr (mb,11)=oM ev/\oT wr (mb,12)=oM (oG (fb,0) n c):=by
 have i:=h.Aj.cell;exact⟨⟨i 0,i 1,i 2,i 3⟩,i 4,i 5,i 6,i 7,i 8,i 9,i 10,i 11,i 12⟩
def Dq.L3{w:oU}{f:Nat->List Nat}(h:Dq A w v n f)(I:k<n):∃b off c i c2,v=oG (oM ⟨b,off,oN⟩) n c/\(A b/\b<w.heap.size)/\oT w ⟨b,off+k,oN⟩=oM (oG i (f k).length c2)/\Ca A w (oG i (f k).length c2) (f k):=by obtain⟨i,c,U,hn,hm,R⟩:=h;obtain⟨b,off,t,C,J,hx⟩:=R k I;obtain⟨x,j,l⟩:=hx 0 nX;obtain⟨o,c2,a0⟩:=l.shape;subst a0;refine⟨b,off,c,o,c2,by rw[U,t],⟨C,J⟩,?_,l⟩;rw[Nat.mul_one,Nat.add_zero]at j;exact j
def Jg.at_{w:oU}{m:Nat}{CC:List (List AV)}(h:Jg A w m v n CC)(I:k<n):∃b off c i c2,v=oG (oM ⟨b,off,oN⟩) n c/\(A b/\b<w.heap.size)/\oT w ⟨b,off+k,oN⟩=oM (oG i (CC.getD k []).length c2)/\DW A w m (oG i (CC.getD k []).length c2) (CC.getD k []):=by obtain⟨i,c,U,hn,hm,R⟩:=h;obtain⟨b,off,t,C,J,hx⟩:=R k I;obtain⟨x,j,l⟩:=hx 0 nX;obtain⟨o,c2,a0,hh⟩:=id l;rw[a0]at j l;refine⟨b,off,c,o,c2,by rw[U,t],⟨C,J⟩,?_,l⟩;rw[Nat.mul_one,Nat.add_zero]at j;exact j
def DW.at_{w:oU}{m:Nat}{C:Option Addr}{c:Nat}{l:List AV}(h:DW A w m (oG C n c) l){d:Nat}{x:AV}(J:l[d]?=oM x):∃b off,∃i:AH,C=oM ⟨b,off,oN⟩/\(A b/\b<w.heap.size)/\oT w ⟨b,off+d*3,oN⟩=oM (oH oO (x.s:Nat))/\oT w ⟨b,off+d*3+1,oN⟩=oM i.v/\oT w ⟨b,off+d*3+2,oN⟩=oM (oK x.self)/\i.n=m/\IP A w i x.set:=by
 obtain⟨a1,a5⟩:=sG.1 J;have hg:l.getD d ⟨0,0,false⟩=x:=by rw[dG,J];rfl
 obtain⟨a4,c',hv,hn,hm,hr⟩:=h;cases hv
 obtain⟨b,off,a0,hb,a2,t⟩:=hr d a1;obtain⟨x0,h0,j⟩:=t 0 nX;obtain⟨x1,U,i,rfl,a3,R⟩:=t 1 nX;obtain⟨x2,I,o⟩:=t 2 nX;have j:x0=oH oO ((l.getD d ⟨0,0,false⟩).s:Nat):=j;have o:x2=oK (l.getD d ⟨0,0,false⟩).self:=o;rw[hg]at j R o;refine⟨b,off,i,a0,⟨hb,a2⟩,?_,U,?_,a3,R⟩
 ·rw[j]at h0;exact h0
 ·rw[o]at I;exact I
def Oy(w1 w3 w0:oU)(mb fb n c:Nat)(v lv rv tlv uv cv bv:oV)(g:Gz)(base:List Nat)(S:List Nat)(FR0:List (List It))(st n0:Nat)(q:Gz.Cw)(e:Ending)(w':oU):Prop:=
 e=oQ (.tuple #[])/\∃o t l i j,Dc w1 w3 w0 w' mb fb n c v lv rv tlv uv cv bv o t g base l S i j FR0 st n0 q
def Dc.Wl(J:GN w1 v g)(h:Dc w1 w3 w0 wr mb fb n c v lv rv tlv uv cv bv av ev g base P S ED FR FR0 st n0 p)(R:st<FR0.length)(C:p.1<=100000)(hF:p.2.1.length<=100000)(k:Nat) :
  () 190 #[(mb,0),st,k] wr fun e w2=>e=oQ (oH oO (Gz.Dg p.1 p.2.1 k).1)/\∃o i l,Dc w1 w3 w0 w2 mb fb n c v lv rv tlv uv cv bv o ev g base i S ED l FR0 st n0 ((Gz.Dg p.1 p.2.1 k).2.1,(Gz.Dg p.1 p.2.1 k).2.2,p.2.2)/\AI w1 [217,218,278,280] wr w2/\∀(q:Option AH) (T:Nat),Cu wr (g.nt+1) P q T->Cu w2 (g.nt+1) i q T:=by
 obtain⟨U,I⟩:=h.row;refine(Xq (s:=st) (k:=k) J h.By (by rw[h.len];exact C) I hF).mono ?_;intro e w2 j;have t:Gz.Dg P.length p.2.1 k=Gz.Dg p.1 p.2.1 k:=by rw[h.len]
 rw[t]at j;exact h.ended R j
def Y0(hs:NS w1 w3 mb fb v lv rv tlv uv cv g V L E T CC)(h7:Small L base)(h:Dc w1 w3 w0 wr mb fb n c v lv rv tlv uv cv bv av ev g base P S ED FR FR0 st n0 p)(ji:st<FR0.length)(h9:st<L.length){at_:Nat}(dn:x.1<=g.R.length)(hr:x.2<=1000000)(hq:g.GK L E base T CC st at_ x p=oM q)(kk:q.1<=100000)(km:q.2.1.length<=100000)(kn:q.2.2.length<=1000000) :
  Calls Tryz.prog 133 #[oI (oM ⟨mb,0,oN⟩),oH oO st,oH oO at_,CN x] wr (Oy w1 w3 w0 mb fb n c v lv rv tlv uv cv bv g base S FR0 st n0 q):=by
 have gs:=Tf hq;have kj:=hs.gn.fit.nt;obtain⟨AT,cT,AN,cN,AR,cR,rfl,-,-⟩:=hs.gn.open_;have HS:=Hd hs;have b3:=Hd h7;have fe:=Hd h;have HQ:=Hd hq;have g2:Hid (∀y:oU,Am (XL mb fb w3.heap.size) w3 y->Dq (Sx mb fb w3.heap.size) y rv (g.R.length+1) g.right/\F8 (Sx mb fb w3.heap.size) y (g.nt+1) tlv (g.R.length+1) T/\Dq (Sx mb fb w3.heap.size) y uv (g.top+1) g.CJ/\Jg (Sx mb fb w3.heap.size) y (g.nt+1) cv (g.top+1) CC):=Hd (fun y o=>⟨hs.Ha.AA o (fun b U=>U.no),hs.Ke.AA o (fun b U=>U.no),hs.Qe.AA o (fun b U=>U.no),hs.Ta.AA o (fun b U=>U.no)⟩)
 obtain⟨⟨z0,z1,z2,z3⟩,z4,z5,z6,z7,z8,z9,jx,ae,jy⟩:=h.By.cells;have ml:=h.By.Aj.lt;obtain⟨br,dq,cr,Ar,g6,jf,⟨gb,db⟩,ar,cx⟩:=hs.Ha.L3 (k:=x.1) nX;subst jf;obtain⟨t,l⟩:=x;simp only at ar cx dn hr;obtain⟨rl,ez⟩:∃b6,(g.right t).length=b6:=⟨_,rfl⟩
 have be:=Hd ez;rw[ez]at ar cx;have e9:Hid (∀y:oU,Am (XL mb fb w3.heap.size) w3 y->oT y ⟨br,dq+t,oN⟩=oM (oG Ar rl g6)/\Ca (Sx mb fb w3.heap.size) y (oG Ar rl g6) (g.right t)):=Hd (fun y o=>⟨(o.cell db gb.no _).trans ar,cx.AA o (fun b U=>U.no)⟩);obtain⟨ar,cx⟩:=e9 wr h.By.AA;have db:br<wr.heap.size:=A0 db h.By.AA.size;have cf:=Hd (Ah.new wr 220 #[oH oO t,oH oO l]);have f8:=Hd (DM wr (oP #[oH oO t,oH oO l] 220));have HG:=Hd gs;have kq:(t:Int)<((g.R.length+1:Nat):Int):=by omega
 have kr:(t:Int)<(g.R.length:Int)+1:=by omega
 unfold CN;clear hs h7 h hq gs cx ez z0 z1 z2 z3 z4 z6 z7 z8 z9 jx jy gb;unfold Oy;go_enter func133,ntmps133
 go_upto_region 1 with fail
 have x0:=Ah.cell cf 0;have x1:=Ah.cell cf 1;have xl:=Ah.lt cf;simp at x0 x1 xl;go_quiet (fail)
 have a9:=Hd ((fe.later f8).later (w2:=(wr.alloc (oP #[oH oO t,oH oO l] 220)).drewN nq) ⟨rfl,rfl,rfl,Ay _,fun _ _=>rfl⟩);have b5:Hid (Ah ((wr.alloc (oP #[oH oO t,oH oO l] 220)).drewN nq) wr.heap.size 220 #[oH oO t,oH oO l]):=Hd (cf.drewN nq);generalize (wr.alloc (oP #[oH oO t,oH oO l] 220)).drewN nq=W at *;generalize wr.heap.size=I at *;have k6:=Hd b5.lt;clear x0 x1 xl z5 ae ml ar db cf f8 fe;have x0:oT W ⟨I,0,oN⟩=oM (oH oO t):=Ah.cell b5 0;have x1:oT W ⟨I,1,oN⟩=oM (oH oO l):=Ah.cell b5 1
 have xl:=b5.lt;by_cases en:rl<=l
 ·have eo:((rl:Int)<=(l:Int)):=by omega
  have HE:Hid (q=p):=Hd (by have h:=HQ.out;unfold Gz.GK at h;rw[if_pos (by rw[be.out];exact en)]at h;exact(Option.some.inj h).symm)
  clear en;go_wp2_with fail
  refine bodyPost_ret (results_none rfl _ _ _) rfl ?_;refine⟨rfl,av,ev,P,ED,FR,?_⟩;rw[HE.out];exact a9
 ·have eo:¬((rl:Int)<=(l:Int)):=by omega
  have es:l<rl:=by omega
  obtain⟨t0,au,gz⟩:∃t0,g.Hc L E base st (t,l)=oM t0/\(if g.BW (g.next (t,l)) then g.Gc L E base st at_ (Gz.GG T t l) (CC.getD (g.next (t,l)) []) (p.1,p.2.1,p.2.2++[⟨t0,at_,0,true⟩]) else oM (p.1,p.2.1,p.2.2++[⟨t0,at_,0,true⟩]))=oM q:=by
   have h:=HQ.out;unfold Gz.GK at h;rw[if_neg (by rw[be.out];omega)]at h;split at h
   ·cases h
   ·rename_i t0 hd
    exact⟨t0,hd,h⟩
  have e8:=Hd gz;have fx:Hid (Calls Tryz.prog 186 #[oI (oM ⟨mb,0,oN⟩),oH oO st,CN (t,l)] W.drew fun e w'=>e=oQ (oH oO t0)/\Below W.heap.size W w'):=Hd (by
   have hm:=a9.By;obtain⟨⟨y0,y1,y2,y3⟩,y4,y5,y6,y7,y8,y9,jv,a2,jw⟩:=hm.cells;have hB:BF W bv base:=Hi hm.FX (by have h1:=b3.1;have h2:=HS.Gy.len.1;have h3:=HS.Gy.small;omega)
   refine(QQ (w:=W.drew) (A:=Sx mb fb w3.heap.size) (V:=V) (L:=L) (E:=E) (base:=base) (g:=g) y4 y5 y9 (HS.Gy.later (hm.below.trans (((Below.refl _ W).drew).mono hm.below.size))) ((g2 W hm.AA).1.AA (X:=fun _=>False) ⟨rfl,rfl,rfl,Ay _,fun _ _ _=>rfl⟩ (fun _ _=>id)) (hB.later ((Below.refl _ W).drew)) b3.1 dn (by rw[be.out];exact es) hr h9 au (NW b3 au)).mono ?_;rintro e w' ⟨rfl,h2⟩;exact⟨rfl,((Below.refl _ W).drew).trans h2⟩)
  have hd:=NW b3 au;obtain⟨Ae,ce,j7⟩:=CG a9.By.EK;subst j7;have j6:ED.length<=1000000:=by have h1:=congrArg List.length a9.JJ;rw[lM]at h1;have h2:=HG.2.2;omega
  obtain⟨ne,dj⟩:∃k,ED.length=k:=⟨_,rfl⟩
  have d4:=Hd dj;have ae:oT W ⟨mb,11,oN⟩=oM (oG Ae ne ce):=by rw[<-dj];exact a9.By.cells.2.2.2.2.2.2.2.2.1
  have ml:=a9.By.Aj.lt;rw[dj]at j6;have ir:=Hd a9.By.AA.size;have d5:Hid (∀Y,Below W.heap.size W Y->oT Y ⟨mb,11,oN⟩=oM (oG Ae ne ce)/\oT Y ⟨I,0,oN⟩=oM (oH oO t)/\oT Y ⟨I,1,oN⟩=oM (oH oO l)):=Hd (fun Y o=>⟨(o.cell (p:=⟨mb,11,oN⟩) ml).trans ae,(o.cell (p:=⟨I,0,oN⟩) xl).trans x0,(o.cell (p:=⟨I,1,oN⟩) xl).trans x1⟩);unfold CN at fx;clear gz au dj HQ en;go_upto_region 3 with fail
  refine DY 15 (fun(v:oU)=>oT v ⟨mb,11,oN⟩=oM (oG Ae ne ce)/\oT v ⟨I,0,oN⟩=oM (oH oO t)/\oT v ⟨I,1,oN⟩=oM (oH oO l)) nZ ?_;have i:(fun(v:oU)=>oT v ⟨mb,11,oN⟩=oM (oG Ae ne ce)/\oT v ⟨I,0,oN⟩=oM (oH oO t)/\oT v ⟨I,1,oN⟩=oM (oH oO l)) W.drew:=⟨ae,x0,x1⟩
  refine AF 0 i ?_;simp only[AD,AE];refine AF 1 i ?_;simp only[AD,AE];refine AF 2 i ?_;simp only[AD,AE];refine AF 3 i ?_;simp only[AD,AE];refine AF 4 i ?_;simp only[AD,AE];refine AF 5 i ?_;simp only[AD,AE];refine AF 6 i ?_;simp only[AD,AE];refine AF 7 i ?_;simp only[AD,AE];refine AF 9 i ?_;simp only[AD,AE];refine Bm 8 nZ rfl rfl (fun K j=>?_);go_simp;refine fx.mono ?_;rintro e w2 ⟨rfl,ao⟩;have f7:=Hd ao;have b7:Hid (Below W.heap.size W (w2.alloc (oP #[oH oO (t0:Nat),oH oO (at_:Nat),oI oN,oK true] 272))):=Hd (ao.alloc ao.size _)
  clear ao i;refine j _ _ (fun _=>d5 w2 f7) ?_;clear j K;have i:(fun(v:oU)=>oT v ⟨mb,11,oN⟩=oM (oG Ae ne ce)/\oT v ⟨I,0,oN⟩=oM (oH oO t)/\oT v ⟨I,1,oN⟩=oM (oH oO l)) w2:=d5 w2 f7;refine AF 10 i ?_;simp only[AD,AE];clear i;refine Bm 11 nZ rfl rfl (fun K j=>?_);go_simp;refine j _ _ (fun _=>d5 _ b7) ?_;clear j K;refine Hn 12 nZ rfl rfl rfl (fun K j=>?_);refine Eu Oo (.tmp 34) (.tmp 41) rfl (base:=w3.heap.size) (n:=ne) (m:=1) (N:=ne+1) (v:=oG Ae ne ce) (src:=oG (oM ⟨w2.heap.size,0,oN⟩) 1 1) (xs:=ED.flatMap Dw) (news:=Dw (oN,⟨t0,at_,0,true⟩)) rfl rfl (AU (by have h:=a9.By.EK;rw[d4.out]at h;exact h) b7) (Be.Aj (c:=1) (cs:=Dw (oN,⟨t0,at_,0,true⟩)) (Ah.new w2 272 _) rfl (fun u hu=>by unfold Dw hV at hu;simp at hu;rcases hu with rfl|rfl|rfl|rfl<;>rfl)) rfl oB nX (by have:=ir.out;have:=b7.size;omega) ?_
  intro A4 c4 w4 q1 q2 q3;have d3:=Hd (a9.LF b7 (x:=(oN,⟨t0,at_,0,true⟩)) (A:=A4) (c2:=c4) rfl (by rw[d4.out];exact q1) q2);rw[d4.out]at d3;have e5:Hid (Ah w4 mb 217 _):=Hd (q2.Aj (a9.By.Aj.below b7 a9.By.Aj.lt) (.inr nY));have a2:oT w4 ⟨mb,11,oN⟩=oM (oG Ae ED.length ce):=Ah.cell e5 11;rw[d4.out]at a2;have yf:=Ah.frozen e5 11;have yl:=e5.lt;have g1:Hid (Ah w4 I 220 #[oH oO t,oH oO l]):=Hd (q2.Aj (b5.below b7 b5.lt) (.inr nY));have y0:oT w4 ⟨I,0,oN⟩=oM (oH oO t):=Ah.cell g1 0
  have y1:oT w4 ⟨I,1,oN⟩=oM (oH oO l):=Ah.cell g1 1;clear q1 q2 q3;refine j _ _ (fun _=>⟨a2,y0,y1⟩) ?_;clear j K;simp only[List.set_cons_succ,List.set_cons_zero];refine Bm 13 nZ rfl rfl (fun K j=>?_);go_simp;refine j _ _ (fun _=>⟨a2,y0,y1⟩) ?_;clear j K;refine Bm 14 nZ rfl rfl (fun K j=>?_);go_simp;refine j _ _ (fun _=>⟨a2,y0,y1⟩) ?_;clear j K;refine Bm 15 nZ rfl rfl (fun K j=>?_);go_simp;refine j _ _ (fun h=>absurd rfl h) ?_;clear j K;refine D0 nZ ?_ _;have ax:=Hd d3.1;have cd:Hid (Ah (w4.setCell ⟨mb,11,oN⟩ (oG A4 (ne+1) c4)) I 220 #[oH oO t,oH oO l]):=Hd (d3.2.Aj b5 (.inr nY))
  generalize w4.setCell ⟨mb,11,oN⟩ (oG A4 (ne+1) c4)=W5 at *;clear d3;clear y0 y1 a2 yf yl x0 x1 xl ae ml;obtain⟨ss,ad⟩:∃s,(g.right t)[l]?=oM s:=⟨_,eG (by rw[be.out];exact es)⟩
  have h8:g.next (t,l)=ss:=by unfold Gz.next;rw[dG,ad];rfl
  have ko:ss<=g.top:=HS.gn.fit.M4 (mG ad);rw[h8]at e8;obtain⟨bS,oS,ix,k9,gd,bh⟩:=(e9 W5 ax.By.AA).2.at_ ad;subst ix;have eb:Hid (∀y:oU,Below W5.heap.size W5 y->(oT y ⟨mb,0,oN⟩=oM (oG AT g.nt cT)/\oT y ⟨mb,1,oN⟩=oM (oG AN g.nn cN)/\oT y ⟨mb,2,oN⟩=oM (oG AR g.R.length cR)/\oT y ⟨mb,3,oN⟩=oM (oH oO g.s))/\oT y ⟨I,0,oN⟩=oM (oH oO t)/\oT y ⟨I,1,oN⟩=oM (oH oO l)/\oT y ⟨bS,oS+l,oN⟩=oM (oH oO ss)):=Hd (fun y o=>by have U:=cd.below o cd.lt;exact⟨(ax.By.later o).cells.1,U.cell 0,U.cell 1,(o.cell (p:=⟨bS,oS+l,oN⟩) gd).trans bh⟩)
  have cz:Hid (Below W5.heap.size W5 W5.drew):=Hd ((Below.refl _ W5).drew);have fm:=Hd (NA (HS.gn.later (ax.By.below.trans (cz.mono ax.By.below.size))) ss);have kp:(l:Int)<(rl:Int):=by omega
  have ij:=Hd ad;clear ad h8 bh gd;go_upto_region 4 with fail
  go_region_held3 (fun v=>(oT v ⟨mb,0,oN⟩=oM (oG AT g.nt cT)/\oT v ⟨mb,1,oN⟩=oM (oG AN g.nn cN)/\oT v ⟨mb,2,oN⟩=oM (oG AR g.R.length cR)/\oT v ⟨mb,3,oN⟩=oM (oH oO g.s))/\oT v ⟨I,0,oN⟩=oM (oH oO t)/\oT v ⟨I,1,oN⟩=oM (oH oO l)/\oT v ⟨bS,oS+l,oN⟩=oM (oH oO ss))
   (first|exact eb _ cz|exact eb _ bq)
   (first|(
        go_at_call 168;refine fm.mono ?_;rintro e w6 ⟨rfl,ga⟩
        have bq:=Hd (cz.trans ga);clear ga))
  cases cw:g.BW ss with
  | false=>
   have fl:=Hd cw;clear cw;have HE:Hid (q=(p.1,p.2.1,p.2.2++[⟨t0,at_,0,true⟩])):=Hd (by have h:=e8.out;rw[fl.out,if_neg oA]at h;exact(Option.some.inj h).symm)
   go_wp2_with fail
   refine bodyPost_ret (results_none rfl _ _ _) rfl ?_;refine⟨rfl,?_⟩;rw[HE.out];exact⟨_,_,_,_,_,ax.later bq⟩
  | true=>
   have fl:=Hd cw;have dw:Hid (g.Gc L E base st at_ (Gz.GG T t l) (CC.getD ss []) (p.1,p.2.1,p.2.2++[⟨t0,at_,0,true⟩])=oM q):=Hd (by have h:=e8.out;rw[cw,if_pos rfl]at h;exact h)
   clear cw;obtain⟨⟨tS,C⟩,f2⟩:∃dr,(T.getD t [])[l]?=oM dr:=⟨_,eG (by rw[HS.Mu t dn,be.out];exact es)⟩
   have hf:Gz.GG T t l=(tS,C):=by unfold Gz.GG;rw[dG,f2];rfl
   rw[hf]at dw;obtain⟨bt,ot,ct,xt,jk,⟨j2,gh⟩,em,hg⟩:=HS.Ke.at_ (k:=t) nX;subst jk;obtain⟨b2,o2,d8,J,jm,⟨g9,ao⟩,he,dm,hn,f1⟩:=hg.at_ f2;subst jm;have hl:(T.getD t []).length=rl:=by rw[HS.Mu t dn,be.out]
   rw[hl]at em;have ed:Hid (∀y:oU,Am (XL mb fb w3.heap.size) w3 y->(oT y ⟨bt,ot+t,oN⟩=oM (oG (oM ⟨b2,o2,oN⟩) rl d8)/\oT y ⟨b2,o2+l*2,oN⟩=oM (oI (oM ⟨J.h,0,oN⟩))/\oT y ⟨b2,o2+l*2+1,oN⟩=oM (oK C))/\AQ y J tS/\bt<y.heap.size/\b2<y.heap.size):=Hd (fun y o=>⟨⟨(o.cell gh j2.no _).trans em,(o.cell ao g9.no _).trans he,(o.cell ao g9.no _).trans dm⟩,(f1.AA o (fun b U=>U.no)).1,A0 gh o.size,A0 ao o.size⟩);have ip:=Hd hn;have k4:Hid (J.wb<w3.heap.size):=Hd f1.2.2.1;clear f2 hf hg em he dm f1 hn hl
   have c7:=Hd (ax.later bq);have al:=Hd (cd.below bq cd.lt);have f3:oT w6 ⟨mb,6,oN⟩=oM (oG (oM ⟨bt,ot,oN⟩) (g.R.length+1) ct):=c7.By.cells.2.2.2.1;obtain⟨⟨k1,k2,k3⟩,_,aw,f4⟩:=ed w6 c7.By.AA;have x0:oT w6 ⟨I,0,oN⟩=oM (oH oO t):=Ah.cell al 0;have x1:oT w6 ⟨I,1,oN⟩=oM (oH oO l):=Ah.cell al 1;have hv:=c7.By.Aj.lt;have jt:=al.lt;go_upto_region 5 with fail
   refine DY 13 (fun(v:oU)=>oT v ⟨mb,6,oN⟩=oM (oG (oM ⟨bt,ot,oN⟩) (g.R.length+1) ct)/\oT v ⟨I,0,oN⟩=oM (oH oO t)/\oT v ⟨I,1,oN⟩=oM (oH oO l)/\oT v ⟨bt,ot+t,oN⟩=oM (oG (oM ⟨b2,o2,oN⟩) rl d8)/\oT v ⟨b2,o2+l*2,oN⟩=oM (oI (oM ⟨J.h,0,oN⟩))/\oT v ⟨b2,o2+l*2+1,oN⟩=oM (oK C)) nZ ?_;have i:(fun(v:oU)=>oT v ⟨mb,6,oN⟩=oM (oG (oM ⟨bt,ot,oN⟩) (g.R.length+1) ct)/\oT v ⟨I,0,oN⟩=oM (oH oO t)/\oT v ⟨I,1,oN⟩=oM (oH oO l)/\oT v ⟨bt,ot+t,oN⟩=oM (oG (oM ⟨b2,o2,oN⟩) rl d8)/\oT v ⟨b2,o2+l*2,oN⟩=oM (oI (oM ⟨J.h,0,oN⟩))/\oT v ⟨b2,o2+l*2+1,oN⟩=oM (oK C)) w6.drew:=⟨f3,x0,x1,k1,k2,k3⟩
   refine AF 0 i ?_;simp only[AD,AE];refine AF 1 i ?_;simp only[AD,AE];refine AF 2 i ?_;simp only[AD,AE];refine AF 3 i ?_;simp only[AD,AE];refine AF 4 i ?_;simp only[AD,AE];refine AF 5 i ?_;simp only[AD,AE];refine AF 6 i ?_;simp only[AD,AE];refine AF 7 i ?_;simp only[AD,AE];refine AF 8 i ?_;simp only[AD,AE];refine AF 9 i ?_;simp only[AD,AE];refine AF 10 i ?_;simp only[AD,AE];refine AF 11 i ?_;simp only[AD,AE];clear i;have ft:Hid (∀Y,Below w6.heap.size w6 Y->(fun(v:oU)=>oT v ⟨mb,6,oN⟩=oM (oG (oM ⟨bt,ot,oN⟩) (g.R.length+1) ct)/\oT v ⟨I,0,oN⟩=oM (oH oO t)/\oT v ⟨I,1,oN⟩=oM (oH oO l)/\oT v ⟨bt,ot+t,oN⟩=oM (oG (oM ⟨b2,o2,oN⟩) rl d8)/\oT v ⟨b2,o2+l*2,oN⟩=oM (oI (oM ⟨J.h,0,oN⟩))/\oT v ⟨b2,o2+l*2+1,oN⟩=oM (oK C)) Y):=Hd (fun Y o=>by
    have U:=al.below o al.lt;exact⟨(o.cell (p:=⟨mb,6,oN⟩) hv).trans f3,U.cell 0,U.cell 1,(o.cell (p:=⟨bt,ot+t,oN⟩) aw).trans k1,(o.cell (p:=⟨b2,o2+l*2,oN⟩) f4).trans k2,(o.cell (p:=⟨b2,o2+l*2+1,oN⟩) f4).trans k3⟩)
   refine Bm 12 nZ rfl rfl (fun K j=>?_);go_simp;refine j _ _ (fun _=>ft _ (((Below.refl _ w6).alloc (Ay _) _).drew)) ?_;clear j K;refine Bm 13 nZ rfl rfl (fun K j=>?_);go_simp;refine j _ _ (fun h=>absurd rfl h) ?_;clear j K;refine D0 nZ ?_ _;have du:Hid (Below w6.heap.size w6 ((w6.alloc (oP #[oI (oM ⟨J.h,0,oN⟩),oK C] 260)).drew)):=Hd (((Below.refl _ w6).alloc (Ay _) _).drew);have ca:Hid (Ah ((w6.alloc (oP #[oI (oM ⟨J.h,0,oN⟩),oK C] 260)).drew) w6.heap.size 260 #[oI (oM ⟨J.h,0,oN⟩),oK C]):=Hd (Ah.drew (Ah.new w6 260 _))
   have ay:=Hd (c7.later du);have d7:=Hd (al.below du al.lt);generalize (w6.alloc (oP #[oI (oM ⟨J.h,0,oN⟩),oK C] 260)).drew=W7 at *;generalize w6.heap.size=tb at *;clear k1 k2 k3 aw f4 x0 x1 hv jt f3 c7 al ft d5 ax cd eb fm cz;have hw:oT W7 ⟨tb,0,oN⟩=oM (oI (oM ⟨J.h,0,oN⟩)):=Ah.cell ca 0;have bi:oT W7 ⟨tb,1,oN⟩=oM (oK C):=Ah.cell ca 1;have hy:=ca.lt;obtain⟨nn,aq⟩:∃b,(!C&&tS==0)=b:=⟨_,rfl⟩
   have ie:=Hd aq;go_upto_region 6 with fail
   go_cut [10] (fun nv wx=>nv=oK nn/\wx=W7)
   case first=>
    cases C with
    | true=>
     have cp:nn=false:=by rw[<-aq];rfl
     subst cp;clear aq;go_wp2_with fail
     go_meet
     exact⟨rfl,rfl⟩
    | false=>
     obtain⟨qq,gl,eu,ew⟩:=Us (ed W7 ay.By.AA).2.1;have e6:=Hd gl;unfold AH.v at e6;clear gl;by_cases hz:tS=0
     ·have cp:nn=true:=by rw[<-aq,hz];rfl
      have jd:qq<0:=eu hz;subst cp;clear aq eu ew hz;go_wp2_with (go_at_call 187;refine e6.mono ?_;rintro e w8 ⟨rfl,rfl⟩)
      go_meet
      exact⟨rfl,rfl⟩
     ·have cp:nn=false:=by rw[<-aq];simp[hz]
      have jd:¬(qq<0):=by have:=ew hz;omega
      subst cp;clear aq eu ew hz;go_wp2_with (go_at_call 187;refine e6.mono ?_;rintro e w8 ⟨rfl,rfl⟩)
      go_meet
      exact⟨by rw[decide_eq_false (show ¬qq<0 by omega)],rfl⟩
   case rest=>
    obtain⟨rfl,rfl⟩:=hcut;clear aq hw bi;obtain⟨bc,oc,cc,Ac,g4,j5,⟨gf,ej⟩,dc,cm⟩:=HS.Ta.at_ (k:=ss) nX;subst j5;obtain⟨CL,eh⟩:∃b6,CC.getD ss []=b6:=⟨_,rfl⟩
    rw[eh]at dc cm dw;have i4:Hid (∀c∈CL,c.s<=g.top):=Hd (fun c hc=>by
     rw[<-eh,dG]at hc;cases hq:CC[ss]? with
     | none=>rw[hq]at hc;cases hc
     | some b6=>rw[hq]at hc;exact HS.YM b6 (mG hq) c hc)
    obtain⟨lc,er⟩:∃k,CL.length=k:=⟨_,rfl⟩
    have e4:=Hd er;rw[er]at dc cm;have f9:Hid (∀y:oU,Am (XL mb fb w3.heap.size) w3 y->oT y ⟨bc,oc+ss,oN⟩=oM (oG Ac lc g4)/\bc<y.heap.size/\DW (Sx mb fb w3.heap.size) y (g.nt+1) (oG Ac lc g4) CL):=Hd (fun y o=>⟨(o.cell ej gf.no _).trans dc,A0 ej o.size,cm.AA o (fun b U=>U.no)⟩);have kh:lc<=1000000:=by obtain⟨_,_,_,_,hm,_⟩:=cm;rw[e4.out]at hm;exact hm
    clear dc cm ej gf eh er;have jn:oT wc ⟨mb,8,oN⟩=oM (oG (oM ⟨bc,oc,oN⟩) (g.top+1) cc):=ay.By.cells.2.2.2.2.2.1;have x1:oT wc ⟨I,1,oN⟩=oM (oH oO l):=Ah.cell d7 1;obtain⟨k1,aw,-⟩:=f9 wc ay.By.AA;have bh:oT wc ⟨bS,oS+l,oN⟩=oM (oH oO ss)/\bS<wc.heap.size:=by
     obtain⟨b',o',e,_,h1,h2⟩:=(e9 wc ay.By.AA).2.at_ ij;cases e
     exact⟨h2,h1⟩
    obtain⟨bh,jc⟩:=bh;have jg:(ss:Int)<((g.top+1:Nat):Int):=by omega
    have jh:(ss:Int)<(g.top:Int)+1:=by omega
    have jq:=ay.By.Aj.lt;have ju:=d7.lt;go_upto_region 7 with fail
    go_quiet (fail)
    have ib:=Hd (ay.later (w2:=wc.drewN nq) ⟨rfl,rfl,rfl,Ay _,fun _ _=>rfl⟩);have k5:Hid (Ah (wc.drewN nq) I 220 #[oH oO t,oH oO l]):=Hd (d7.drewN nq);have im:Hid (Ah (wc.drewN nq) tb 260 #[oI (oM ⟨J.h,0,oN⟩),oK C]):=Hd (ca.drewN nq);generalize wc.drewN nq=W8 at *;clear jn x1 k1 aw bh jc jg jh jq ju hy ay d7 ca du bq;go_wp2_with fail
    go_loopg [89] lc (fun m jj wr=>∃(aa:Nat) (cg ef:oV) (P':List AH) (ds:List (Option AH×Edge)) (bm:List (oV×List It)) (p':Gz.Cw),Hid (m+aa=lc)/\aa<=lc/\jj=oH oO aa/\Hid (Dc w1 w3 w0 wr mb fb n c (.agg #[oG AT g.nt cT,oG AN g.nn cN,oG AR g.R.length cR,oH oO g.s]) lv (oG (oM ⟨br,dq,oN⟩) (g.R.length+1) cr) (oG (oM ⟨bt,ot,oN⟩) (g.R.length+1) ct) uv (oG (oM ⟨bc,oc,oN⟩) (g.top+1) cc) bv cg ef g base P' S ds bm FR0 st n0 p')/\Hid (g.Gc L E base st at_ (tS,C) (CL.drop aa) p'=oM q)/\Hid (AI w1.heap.size TT W8 wr))
    case atStart=>exact⟨0,_,_,_,_,_,_,Hd rfl,AX _,rfl,ib,dw,Hd (AI.refl _ _ _)⟩
    case round=>
     obtain⟨aa,k7,k8,P1,jz,k0,p1,fk,hj,rfl,c8,dz,fg⟩:=hrel;rename oU=>w9
     by_cases gw:aa<lc
     ·have fj:=Hd gw
      obtain⟨⟨cs,bf,a4⟩,de⟩:∃x,CL[aa]?=oM x:=⟨_,eG (by rw[e4.out];exact gw)⟩
      have kd:cs<=g.top:=i4 _ (mG de);obtain⟨bd,od,a7,iw,⟨j1,j0⟩,d0,d1,d2,gm,dd⟩:=(f9 w9 c8.By.AA).2.2.at_ de;subst iw;simp only at d0 d2 dd;obtain⟨SS,ei⟩:∃x,(if a4 then bf|||tS else bf)=x:=⟨_,rfl⟩
      obtain⟨p3,gx,gy⟩:∃p3,g.Ft L E base st at_ SS (a4&&C) nn (g.CJ cs) p1=oM p3/\g.Gc L E base st at_ (tS,C) (CL.drop (aa+1)) p3=oM q:=by
       have h:=dz.out;rw[I6 de]at h;unfold Gz.Gc at h;simp only at h;rw[ei,ie.out]at h;split at h
       ·cases h
       ·rename_i p3 h3
        exact⟨p3,h3,h⟩
      have fp:=Hd gx;have fq:=Hd gy;have bx:Hid (AQ w9 a7 bf/\a7.n=g.nt+1/\a7.wb<w3.heap.size):=Hd ⟨dd.1,gm,dd.2.2.1⟩;have aj:Hid (Ah (w9.alloc (oP #[oH oO cs,a7.v,oK a4] 274)) w9.heap.size 274 #[oH oO cs,a7.v,oK a4]):=Hd (Ah.new w9 274 _);have bo:=Hd (DM w9 (oP #[oH oO cs,a7.v,oK a4] 274));unfold AH.v at d1 aj bo;have fu:=Hd ei;clear de ei gx gy gm dd dz
      go_upto_if 96 with fail
      have c0:=Hd (c8.later bo);have e3:=Hd (fg.trans (AI.AJ bo));have dv:Hid (AQ (w9.alloc (oP #[oH oO cs,oI (oM ⟨a7.h,0,oN⟩),oK a4] 274)) a7 bf):=Hd (bx.1.later bo);generalize w9.alloc (oP #[oH oO cs,oI (oM ⟨a7.h,0,oN⟩),oK a4] 274)=an at *;generalize w9.heap.size=cb at *;clear d0 d1 d2 j0 j1;have b4:=Hd (e3.Aj im (.inr nY));have b0:oT an ⟨cb,0,oN⟩=oM (oH oO cs):=Ah.cell aj 0;have b1:oT an ⟨cb,1,oN⟩=oM (oI (oM ⟨a7.h,0,oN⟩)):=Ah.cell aj 1
      have iu:oT an ⟨cb,2,oN⟩=oM (oK a4):=Ah.cell aj 2;have bl:=aj.lt
      go_cut [13] (fun sv wx=>∃hh:AH,sv=oI (oM ⟨hh.h,0,oN⟩)/\Hid (Cu wx (g.nt+1) P1 (oM hh) SS)/\Hid (Below an.heap.size an wx))
      case first=>
       cases a4 with
       | false=>
        have ad:bf=SS:=by have:=fu.out;simpa using this
        go_wp2_with fail
        go_meet
        refine⟨a7,rfl,Hd ⟨by rw[<-ad];exact dv,bx.2.1,fun p hp=>?_⟩,Hd (Below.refl _ _)⟩;have h1:=(c0.By.new p hp).2;have h2:=bx.2.2;omega
       | true=>
        have ad:bf|||tS=SS:=by have:=fu.out;simpa using this
        have fy:=Hd (VP dv);have hw:oT an ⟨tb,0,oN⟩=oM (oI (oM ⟨J.h,0,oN⟩)):=Ah.cell b4 0;have hy:=b4.lt;unfold AH.v at fy;have ik:=Hd ad;clear ad;go_wp2_with (first
         | (
           go_at_call 188;refine fy.mono ?_;rintro e i0 ⟨tw,rfl,et,gu,ho,f0,da⟩
           have f6:=Hd da;have ec:=Hd (And.intro et (And.intro gu (And.intro ho f0)));have fo:=Hd (G8 f0 ((ed i0 (c0.later da).By.AA).2.1) (by rw[ip.out,et,bx.2.1]));have ks:oT i0 ⟨tb,0,oN⟩=oM (oI (oM ⟨J.h,0,oN⟩)):=Ah.cell (b4.below da b4.lt) 0;unfold AH.v at fo;clear da et gu ho f0)
         | (
           go_at_call 189;refine fo.mono ?_;rintro e jr ⟨rfl,h6,gj⟩
           have ih:=Hd h6;have i2:Hid (Below an.heap.size an jr):=Hd (f6.trans (gj.below f6.size (fun k hk e=>by have e2:k=tw.wb:=e;have:=ec.2.2.1;omega)));clear h6 gj))
        go_meet
        refine⟨tw,rfl,Hd ⟨by rw[<-ik.out];exact ih,by rw[ec.1];exact bx.2.1,fun p hp=>?_⟩,i2⟩;obtain⟨T',iz⟩:=c0.By.AM.mem hp;have h1:=iz.words.lt;have h2:=ec.2.2.1;omega
      case rest=>
       obtain⟨hh,rfl,fc,bp⟩:=hcut;rename oU=>ah
       have c6:=Hd (c0.later bp);have ff:=Hd (e3.trans (AI.AJ bp));have cy:=Hd (aj.below bp aj.lt);have fw:=Hd (b4.below bp b4.lt);clear b0 b1 iu bl c0 e3 aj b4 dv c8 fg bo;obtain⟨bu,ou,cu,Au,g7,jl,⟨gi,el⟩,df,dk⟩:=HS.Qe.L3 (k:=cs) nX;subst jl;obtain⟨RL,d9⟩:∃b6,g.CJ cs=b6:=⟨_,rfl⟩
       have ig:Hid (∀k∈RL,k<g.R.length):=Hd (fun k hk=>by rw[<-d9]at hk;unfold Gz.CJ at hk;exact List.mem_range.1 (List.mem_filter.1 hk).1);rw[d9]at df dk fp;obtain⟨lr,di⟩:∃k,RL.length=k:=⟨_,rfl⟩
       have fi:=Hd di;rw[di]at df dk;have fz:Hid (∀y:oU,Am (XL mb fb w3.heap.size) w3 y->(oT y ⟨bu,ou+cs,oN⟩=oM (oG Au lr g7)/\bu<y.heap.size)/\Ca (Sx mb fb w3.heap.size) y (oG Au lr g7) RL):=Hd (fun y o=>⟨⟨(o.cell el gi.no _).trans df,A0 el o.size⟩,dk.AA o (fun b U=>U.no)⟩);have ki:lr<=300:=by rw[<-di,<-d9];exact AW (L2 g cs) HS.gn.fit.nr
       clear df dk el gi d9 di;have z7:oT ah ⟨mb,7,oN⟩=oM (oG (oM ⟨bu,ou,oN⟩) (g.top+1) cu):=c6.By.cells.2.2.2.2.1;obtain⟨⟨k1,aw⟩,-⟩:=fz ah c6.By.AA;have b0:oT ah ⟨cb,0,oN⟩=oM (oH oO cs):=Ah.cell cy 0;have bl:=cy.lt;have jo:=c6.By.Aj.lt;have j3:(cs:Int)<((g.top+1:Nat):Int):=by omega
       have j4:(cs:Int)<(g.top:Int)+1:=by omega
       go_upto_region 14 with fail
       go_quiet (fail)
       have ia:=Hd (c6.later (w2:=ah.drewN nq) ⟨rfl,rfl,rfl,Ay _,fun _ _=>rfl⟩);have ic:Hid (AI w1.heap.size TT W8 (ah.drewN nq)):=Hd (ff.drewN nq);have i3:Hid (Ah (ah.drewN nq) cb 274 #[oH oO cs,oI (oM ⟨a7.h,0,oN⟩),oK a4]):=Hd (cy.drewN nq);have il:Hid (Ah (ah.drewN nq) tb 260 #[oI (oM ⟨J.h,0,oN⟩),oK C]):=Hd (fw.drewN nq);have i9:Hid (Cu (ah.drewN nq) (g.nt+1) P1 (oM hh) SS):=Hd (fc.later ⟨rfl,rfl,rfl,Ay _,fun _ _=>rfl⟩);generalize ah.drewN nq=it at *;clear z7 k1 aw b0 bl jo j3 j4 c6 ff cy fw fc bp
       go_wp2_with fail
       go_loopg [113] lr (fun m ii wr=>∃(a3:Nat) (cg ef:oV) (P':List AH) (ds:List (Option AH×Edge)) (bm:List (oV×List It)) (p':Gz.Cw),Hid (m+a3=lr)/\a3<=lr/\ii=oH oO a3/\Hid (Dc w1 w3 w0 wr mb fb n c (.agg #[oG AT g.nt cT,oG AN g.nn cN,oG AR g.R.length cR,oH oO g.s]) lv (oG (oM ⟨br,dq,oN⟩) (g.R.length+1) cr) (oG (oM ⟨bt,ot,oN⟩) (g.R.length+1) ct) (oG (oM ⟨bu,ou,oN⟩) (g.top+1) cu) (oG (oM ⟨bc,oc,oN⟩) (g.top+1) cc) bv cg ef g base P' S ds bm FR0 st n0 p')/\Hid (g.Ft L E base st at_ SS (a4&&C) nn (RL.drop a3) p'=oM p3)/\Hid (AI w1.heap.size TT it wr)/\Hid (Cu wr (g.nt+1) P' (oM hh) SS))
       case atStart=>exact⟨0,_,_,_,_,_,_,Hd rfl,AX _,rfl,ia,fp,Hd (AI.refl _ _ _),i9⟩
       case round=>
        obtain⟨a3,g3,eg,P2,af,f5,R,ba,hi,rfl,ak,dy,b8,fd⟩:=hrel;rename oU=>ai
        by_cases gv:a3<lr
        ·obtain⟨k,hk⟩:∃x,RL[a3]?=oM x:=⟨_,eG (by rw[fi.out];exact gv)⟩
         have kg:=ig k (mG hk);obtain⟨bk,ok,iy,kb,ka,kc⟩:=(fz ai ak.By.AA).2.at_ hk;subst iy;have gq:=I6 hk;have dx:=Hd dy;rw[gq]at dx;clear hk gq dy;obtain⟨cj,dp,ee,i1,iv,h5,⟨gg,ek⟩,gp,je⟩:=HS.Ha.L3 (k:=k) nX;have fs:Hid (∀y:oU,Am (XL mb fb w3.heap.size) w3 y->oT y ⟨cj,dp+k,oN⟩=oM (oG i1 (g.right k).length iv)/\cj<y.heap.size):=Hd (fun y o=>⟨(o.cell ek gg.no _).trans gp,A0 ek o.size⟩);have e1:cj=br/\dp=dq/\ee=cr:=by cases h5;exact⟨rfl,rfl,rfl⟩
         obtain⟨rfl,rfl,rfl⟩:=e1;clear h5 gp je ek gg;obtain⟨kl,ep⟩:∃x,(g.right k).length=x:=⟨_,rfl⟩
         rw[ep]at fs;have fh:=Hd ep;clear ep;have z5:oT ai ⟨mb,5,oN⟩=oM (oG (oM ⟨cj,dp,oN⟩) (g.R.length+1) ee):=ak.By.cells.2.2.1;obtain⟨k1,aw⟩:=fs ai ak.By.AA;have ja:(k:Int)<((g.R.length+1:Nat):Int):=by omega
         have jb:(k:Int)<(g.R.length:Int)+1:=by omega
         have kf:(a3:Int)<(lr:Int):=by omega
         obtain⟨r0,p4,ar,ey⟩:∃(r0:Nat) (p4:Nat×List It),((kl=0/\r0=(Gz.Dg R.1 R.2.1 k).1/\p4=(Gz.Dg R.1 R.2.1 k).2)\/(kl≠0/\g.Hc L E base st (k,0)=oM r0/\p4=(R.1,R.2.1)))/\g.Ft L E base st at_ SS (a4&&C) nn (RL.drop (a3+1)) (p4.1,p4.2,if nn then R.2.2 else R.2.2++[⟨r0,at_,SS,a4&&C⟩])=oM p3:=by
          have h:=dx.out;unfold Gz.Ft at h;rw[fh.out]at h;cases kl with
          | zero=>exact⟨_,_,.inl ⟨rfl,rfl,rfl⟩,h⟩
          | succ kl=>
            simp only at h;split at h
            ·cases h
            ·rename_i t1 dm
             exact⟨t1,(R.1,R.2.1),.inr ⟨Nat.succ_ne_zero _,dm,rfl⟩,h⟩
         have fr:=Hd ar;have e7:=Hd ey;have dg:=Mv _ _ _ ey;have dh:=PI _ _ _ fq;have hb:p4.1<=100000/\p4.2.length<=100000:=by have h1:=dg.1;have h2:=dg.2.1;have h3:=dh.1;have h4:=dh.2.1;simp only at h1 h2;omega
         have gr:(if nn then R.2.2 else R.2.2++[(⟨r0,at_,SS,a4&&C⟩:Edge)]).length<=1000000:=by have h1:=dg.2.2;have h2:=dh.2.2;simp only at h1;omega
         have fv:=Hd (And.intro hb gr);have b9:=Hd gv;clear ar ey dg dh hb gr dx
         go_upto_if 125 with fail
         go_cut [16] (fun tv wx=>∃(cg:oV) (P':List AH) (bm:List (oV×List It)),tv=oH oO r0/\Hid (Dc w1 w3 w0 wx mb fb n c (.agg #[oG AT g.nt cT,oG AN g.nn cN,oG AR g.R.length cR,oH oO g.s]) lv (oG (oM ⟨cj,dp,oN⟩) (g.R.length+1) ee) (oG (oM ⟨bt,ot,oN⟩) (g.R.length+1) ct) (oG (oM ⟨bu,ou,oN⟩) (g.top+1) cu) (oG (oM ⟨bc,oc,oN⟩) (g.top+1) cc) bv cg eg g base P' S af bm FR0 st n0 (p4.1,p4.2,R.2.2))/\Hid (AI w1.heap.size TT ai wx)/\Hid (Cu wx (g.nt+1) P' (oM hh) SS))
         case first=>
          by_cases cn:kl=0
          · obtain⟨rfl,rfl⟩:r0=(Gz.Dg R.1 R.2.1 k).1/\p4=(Gz.Dg R.1 R.2.1 k).2:=by
             rcases fr.out with h|h
             ·exact h.2
             ·exact absurd cn h.1
            have j9:((kl:Int)==0)=true:=by rw[cn];rfl
            have hz:=fv.1;have eo:=NR R.1 R.2.1 k;have i7:=Hd (ak.Wl HS.gn ji nX nX k);clear hz eo;clear cn;go_wp2_with (
               go_at_call 190;refine i7.mono ?_;rintro e js ⟨rfl,ch,P3,bn,h1,h2,h3⟩
               have H1:=Hd h1;have H2:=Hd h2;have H3:=Hd h3;clear h1 h2 h3)
            go_meet
            exact⟨ch,P3,bn,rfl,H1,Hd (H2.mono (Ay _) (fun dr J=>by simp at J;rcases J with rfl|rfl|rfl|rfl<;>decide)),Hd (H3 _ _ fd)⟩
          · obtain⟨au,rfl⟩:g.Hc L E base st (k,0)=oM r0/\p4=(R.1,R.2.1):=by
             rcases fr.out with h|h
             ·exact absurd h.1 cn
             ·exact h.2
            have j9:((kl:Int)==0)=false:=by rw[bN];omega
            have iq:Hid (Calls Tryz.prog 186 #[oI (oM ⟨mb,0,oN⟩),oH oO st,.agg #[oH oO k,oH oO 0]] ai fun e w'=>e=oQ (oH oO r0)/\Below ai.heap.size ai w'):=Hd (by
             have hm:=ak.By;obtain⟨⟨y0,y1,y2,y3⟩,y4,y5,y6,y7,y8,y9,jv,a2,jw⟩:=hm.cells;have hB:BF ai bv base:=Hi hm.FX (by have h1:=b3.1;have h2:=HS.Gy.len.1;have h3:=HS.Gy.small;omega)
             exact QQ (A:=Sx mb fb w3.heap.size) (V:=V) (L:=L) (E:=E) (base:=base) (g:=g) (x:=(k,0)) y4 y5 y9 (HS.Gy.later hm.below) (g2 ai hm.AA).1 hB b3.1 (by simp only;omega) (by simp only;rw[fh.out];omega) oA h9 au (NW b3 au))
            clear cn au;go_wp2_with (
               go_at_call 186;refine iq.mono ?_;rintro e js ⟨rfl,g8⟩
               have dt:=Hd g8;clear g8)
            go_meet
            exact⟨g3,P2,f5,rfl,Hd (ak.later dt),Hd (AI.AJ dt),Hd (fd.later dt)⟩
         case rest=>
          obtain⟨ch,P3,bn,rfl,a8,c9,bz⟩:=hcut;rename oU=>a0
          clear z5 k1 aw ja jb;cases nn with
          | true=>
            go_wp2_with fail
            go_roundg (lr-(a3+1))
            case measure=>have:=ba.out;omega
            case rel=>exact⟨a3+1,ch,eg,P3,af,bn,(p4.1,p4.2,R.2.2),Hd (by have:=ba.out;have:=b9.out;omega),by have:=b9.out;omega,oD,a8,e7,Hd (b8.trans c9),bz⟩
          | false=>
            have bw:=Hd ((b8.trans c9).Aj i3 (.inr nY));have d6:=Hd ((b8.trans c9).Aj il (.inr nY));obtain⟨a5,a6,j8⟩:=CG a8.By.EK;subst j8;obtain⟨a1,cq⟩:∃k,af.length=k:=⟨_,rfl⟩
            have bb:=Hd cq;have ke:a1<=1000000:=by have h1:=fv.2;have h2:=congrArg List.length a8.JJ;rw[lM,cq]at h2;simp only[Bool.false_eq_true,if_false,Cb,List.length_singleton]at h1 h2;omega
            have ae:oT a0 ⟨mb,11,oN⟩=oM (oG a5 a1 a6):=by rw[<-cq];exact a8.By.cells.2.2.2.2.2.2.2.2.1
            have fa:Hid (a0.ownsRow w3.heap.size 272 4 (oG a5 a1 a6) a1 (af.flatMap Dw)):=Hd (by have h:=a8.By.EK;rw[cq]at h;exact h);have ht:=a8.By.Aj.lt;have g5:=bw.lt;have hx:=d6.lt;have bi:oT a0 ⟨tb,1,oN⟩=oM (oK C):=Ah.cell d6 1;have g0:=Hd a8.By.AA.size;clear cq;cases a4 with
            | true=>
             have cl:oT a0 ⟨cb,2,oN⟩=oM (oK true):=Ah.cell bw 2;have ea:Hid (∀Y,Below a0.heap.size a0 Y->(fun(v:oU)=>oT v ⟨mb,11,oN⟩=oM (oG a5 a1 a6)/\oT v ⟨cb,2,oN⟩=oM (oK true)/\oT v ⟨tb,1,oN⟩=oM (oK C)) Y):=Hd (fun Y o=>⟨(o.cell (p:=⟨mb,11,oN⟩) ht).trans ae,(o.cell (p:=⟨cb,2,oN⟩) g5).trans cl,(o.cell (p:=⟨tb,1,oN⟩) hx).trans bi⟩);go_upto_region 22 with fail
             refine DY 19 (fun(v:oU)=>oT v ⟨mb,11,oN⟩=oM (oG a5 a1 a6)/\oT v ⟨cb,2,oN⟩=oM (oK true)/\oT v ⟨tb,1,oN⟩=oM (oK C)) nZ ?_;have i:(fun(v:oU)=>oT v ⟨mb,11,oN⟩=oM (oG a5 a1 a6)/\oT v ⟨cb,2,oN⟩=oM (oK true)/\oT v ⟨tb,1,oN⟩=oM (oK C)) a0.drew:=⟨ae,cl,bi⟩
             refine AF 0 i ?_;simp only[AD,AE];refine AF 1 i ?_;simp only[AD,AE];refine AF 2 i ?_;simp only[AD,AE];refine AF 3 i ?_;simp only[AD,AE];refine AF 4 i ?_;simp only[AD,AE];refine AF 5 i ?_;simp only[AD,AE];refine AF 6 i ?_;simp only[AD,AE];refine AF 7 i ?_;simp only[AD,AE];refine AF 8 i ?_;simp only[AD,AE];refine AF 9 i ?_;simp only[AD,AE];refine AF 10 i ?_;simp only[AD,AE];refine AF 11 i ?_;simp only[AD,AE];refine AF 12 i ?_;simp only[AD,AE]
             refine AF 13 i ?_;simp only[AD,AE];refine AF 14 i ?_;simp only[AD,AE];clear i;refine Bm 15 nZ rfl rfl (fun K j=>?_);go_simp;refine j _ _ (fun _=>ea _ (((Below.refl _ a0).alloc (Ay _) _).drew)) ?_;clear j K;refine Hn 16 nZ rfl rfl rfl (fun K j=>?_);refine Eu Oo (.tmp 141) (.tmp 152) rfl (base:=w3.heap.size) (n:=a1) (m:=1) (N:=a1+1) (v:=oG a5 a1 a6) (src:=oG (oM ⟨a0.heap.size,0,oN⟩) 1 1) (xs:=af.flatMap Dw) (news:=Dw (oM hh,⟨r0,at_,SS,true&&C⟩)) rfl rfl (AU (fa.alloc _) ((Below.refl _ _).drew)) (Be.Aj (c:=1) (cs:=Dw (oM hh,⟨r0,at_,SS,true&&C⟩)) (Ah.drew (Ah.new a0 272 _)) rfl (fun u hu=>by unfold Dw hV AH.v at hu;simp at hu;rcases hu with rfl|rfl|rfl|rfl<;>rfl)) rfl oB nX (by have:=g0.out;simp;omega) ?_
             intro bj ck ab q1 q2 q3;have ag:=Hd (a8.LF (((Below.refl _ a0).alloc (Ay _) (oP #[oH oO (r0:Nat),oH oO (at_:Nat),oI (oM ⟨hh.h,0,oN⟩),oK (true&&C)] 272)).drew) (x:=(oM hh,⟨r0,at_,SS,true&&C⟩)) (A:=bj) (c2:=ck) bz (by rw[bb.out];exact q1) q2);rw[bb.out]at ag;have az:Hid (Ah ab mb 217 _):=Hd (q2.Aj (Ah.drew (a8.By.Aj.alloc _)) (.inr nY));have a2:oT ab ⟨mb,11,oN⟩=oM (oG a5 af.length a6):=Ah.cell az 11;rw[bb.out]at a2;have yf:=Ah.frozen az 11;have yl:=az.lt
             have y2:oT ab ⟨cb,2,oN⟩=oM (oK true):=Ah.cell (q2.Aj (Ah.drew (bw.alloc _)) (.inr nY)) 2;have y3:oT ab ⟨tb,1,oN⟩=oM (oK C):=Ah.cell (q2.Aj (Ah.drew (d6.alloc _)) (.inr nY)) 1;have e0:Hid (Cu (ab.setCell ⟨mb,11,oN⟩ (oG bj (a1+1) ck)) (g.nt+1) P3 (oM hh) SS):=Hd (bz.keeps ag.2 nY nY);clear q1 q2 q3;refine j _ _ (fun _=>⟨a2,y2,y3⟩) ?_;clear j K;simp only[List.set_cons_succ,List.set_cons_zero];refine Bm 17 nZ rfl rfl (fun K j=>?_);go_simp;refine j _ _ (fun _=>⟨a2,y2,y3⟩) ?_
             clear j K;refine Bm 18 nZ rfl rfl (fun K j=>?_);go_simp;refine j _ _ (fun _=>⟨a2,y2,y3⟩) ?_;clear j K;refine Bm 19 nZ rfl rfl (fun K j=>?_);go_simp;refine j _ _ (fun h=>absurd rfl h) ?_;clear j K;refine D0 nZ ?_ _;go_wp2_with fail
             go_roundg (lr-(a3+1))
             case measure=>have:=ba.out;omega
             case rel=>exact⟨a3+1,ch,_,P3,_,bn,_,Hd (by have:=ba.out;have:=b9.out;omega),by have:=b9.out;omega,oD,Hd ag.1,e7,Hd ((b8.trans c9).trans (ag.2.mono (Ay _) (fun dr J=>by simp at J;rcases J with rfl|rfl<;>decide))),e0⟩
            | false=>
             have cl:oT a0 ⟨cb,2,oN⟩=oM (oK false):=Ah.cell bw 2;have ea:Hid (∀Y,Below a0.heap.size a0 Y->(fun(v:oU)=>oT v ⟨mb,11,oN⟩=oM (oG a5 a1 a6)/\oT v ⟨cb,2,oN⟩=oM (oK false)/\oT v ⟨tb,1,oN⟩=oM (oK C)) Y):=Hd (fun Y o=>⟨(o.cell (p:=⟨mb,11,oN⟩) ht).trans ae,(o.cell (p:=⟨cb,2,oN⟩) g5).trans cl,(o.cell (p:=⟨tb,1,oN⟩) hx).trans bi⟩);go_upto_region 22 with fail
             refine DY 19 (fun(v:oU)=>oT v ⟨mb,11,oN⟩=oM (oG a5 a1 a6)/\oT v ⟨cb,2,oN⟩=oM (oK false)/\oT v ⟨tb,1,oN⟩=oM (oK C)) nZ ?_;have i:(fun(v:oU)=>oT v ⟨mb,11,oN⟩=oM (oG a5 a1 a6)/\oT v ⟨cb,2,oN⟩=oM (oK false)/\oT v ⟨tb,1,oN⟩=oM (oK C)) a0.drew:=⟨ae,cl,bi⟩
             refine AF 0 i ?_;simp only[AD,AE];refine AF 1 i ?_;simp only[AD,AE];refine AF 2 i ?_;simp only[AD,AE];refine AF 3 i ?_;simp only[AD,AE];refine AF 4 i ?_;simp only[AD,AE];refine AF 5 i ?_;simp only[AD,AE];refine AF 6 i ?_;simp only[AD,AE];refine AF 7 i ?_;simp only[AD,AE];refine AF 8 i ?_;simp only[AD,AE];refine AF 9 i ?_;simp only[AD,AE];refine AF 10 i ?_;simp only[AD,AE];refine JN 11 rfl nZ nZ nZ nZ (fun _ _ _ h=>h) (Or.inr ⟨oF,rfl⟩) i rfl ?rf11
             simp only[List.set_cons_succ,List.set_cons_zero];refine JN 12 rfl nZ nZ nZ nZ (fun _ _ _ h=>h) (Or.inr ⟨oF,rfl⟩) i rfl ?rf12;simp only[List.set_cons_succ,List.set_cons_zero];refine AF 13 i ?_;simp only[AD,AE];refine AF 14 i ?_;simp only[AD,AE];clear i;refine Bm 15 nZ rfl rfl (fun K j=>?_);go_simp;refine j _ _ (fun _=>ea _ (((Below.refl _ a0).alloc (Ay _) _).drew)) ?_;clear j K;refine Hn 16 nZ rfl rfl rfl (fun K j=>?_);refine Eu Oo (.tmp 141) (.tmp 152) rfl (base:=w3.heap.size) (n:=a1) (m:=1) (N:=a1+1) (v:=oG a5 a1 a6) (src:=oG (oM ⟨a0.heap.size,0,oN⟩) 1 1) (xs:=af.flatMap Dw) (news:=Dw (oM hh,⟨r0,at_,SS,false&&C⟩)) rfl rfl (AU (fa.alloc _) ((Below.refl _ _).drew)) (Be.Aj (c:=1) (cs:=Dw (oM hh,⟨r0,at_,SS,false&&C⟩)) (Ah.drew (Ah.new a0 272 _)) rfl (fun u hu=>by unfold Dw hV AH.v at hu;simp at hu;rcases hu with rfl|rfl|rfl|rfl<;>rfl)) rfl oB nX (by have:=g0.out;simp;omega) ?_
             intro bj ck ab q1 q2 q3;have ag:=Hd (a8.LF (((Below.refl _ a0).alloc (Ay _) (oP #[oH oO (r0:Nat),oH oO (at_:Nat),oI (oM ⟨hh.h,0,oN⟩),oK (false&&C)] 272)).drew) (x:=(oM hh,⟨r0,at_,SS,false&&C⟩)) (A:=bj) (c2:=ck) bz (by rw[bb.out];exact q1) q2);rw[bb.out]at ag;have az:Hid (Ah ab mb 217 _):=Hd (q2.Aj (Ah.drew (a8.By.Aj.alloc _)) (.inr nY));have a2:oT ab ⟨mb,11,oN⟩=oM (oG a5 af.length a6):=Ah.cell az 11;rw[bb.out]at a2;have yf:=Ah.frozen az 11;have yl:=az.lt
             have y2:oT ab ⟨cb,2,oN⟩=oM (oK false):=Ah.cell (q2.Aj (Ah.drew (bw.alloc _)) (.inr nY)) 2;have y3:oT ab ⟨tb,1,oN⟩=oM (oK C):=Ah.cell (q2.Aj (Ah.drew (d6.alloc _)) (.inr nY)) 1;have e0:Hid (Cu (ab.setCell ⟨mb,11,oN⟩ (oG bj (a1+1) ck)) (g.nt+1) P3 (oM hh) SS):=Hd (bz.keeps ag.2 nY nY);clear q1 q2 q3;refine j _ _ (fun _=>⟨a2,y2,y3⟩) ?_;clear j K;simp only[List.set_cons_succ,List.set_cons_zero];refine Bm 17 nZ rfl rfl (fun K j=>?_);go_simp;refine j _ _ (fun _=>⟨a2,y2,y3⟩) ?_
             clear j K;refine Bm 18 nZ rfl rfl (fun K j=>?_);go_simp;refine j _ _ (fun _=>⟨a2,y2,y3⟩) ?_;clear j K;refine Bm 19 nZ rfl rfl (fun K j=>?_);go_simp;refine j _ _ (fun h=>absurd rfl h) ?_;clear j K;refine D0 nZ ?_ _;go_wp2_with fail
             go_roundg (lr-(a3+1))
             case measure=>have:=ba.out;omega
             case rel=>exact⟨a3+1,ch,_,P3,_,bn,_,Hd (by have:=ba.out;have:=b9.out;omega),by have:=b9.out;omega,oD,Hd ag.1,e7,Hd ((b8.trans c9).trans (ag.2.mono (Ay _) (fun dr J=>by simp at J;rcases J with rfl|rfl<;>decide))),e0⟩
        ·obtain rfl:a3=lr:=by omega
         have i5:Hid (R=p3):=Hd (by have h:=dy.out;rw[List.drop_eq_nil_of_le (by rw[fi.out];exact Ay _)]at h;unfold Gz.Ft at h;exact Option.some.inj h)
         rw[i5.out]at ak;go_wp2_with fail
         go_roundg (lc-(aa+1))
         case measure=>have:=fk.out;omega
         case rel=>exact⟨aa+1,g3,eg,P2,af,f5,p3,Hd (by have:=fk.out;have:=fj.out;omega),by have:=fj.out;omega,oD,ak,fq,Hd (ic.trans b8)⟩
     ·obtain rfl:aa=lc:=by omega
      have i6:Hid (p1=q):=Hd (by have h:=dz.out;rw[List.drop_eq_nil_of_le (by rw[e4.out];exact Ay _)]at h;unfold Gz.Gc at h;exact Option.some.inj h)
      rw[i6.out]at c8;go_wp2_with fail
      go_end0
      exact⟨rfl,_,_,_,_,_,c8⟩
end
section
variable {w1 w3 wr:oU} {mb fb n c:Nat} {v lv rv tlv uv cv bv av ev:oV} {g:Gz} {base:List Nat} {P:List AH} {S:List Nat} {ED:List (Option AH×Edge)} {FR:List (oV×List It)}
def Mk.XU(h:Mk w1 w3 wr mb fb n c v lv rv tlv uv cv bv av ev g base P S ED FR){p:AH}(j:P[i]?=oM p){q:Option AH}{T:Nat}(I:Cu wr (g.nt+1) P q T) :
  () 189 #[p.v,hV q] wr fun e w'=>e=oQ (oK ((S.getD i 0|||T) != S.getD i 0))/\Mk w1 w3 w' mb fb n c v lv rv tlv uv cv bv av ev g base P (S.set i (S.getD i 0|||T)) ED FR/\Am (XP P) wr w':=by
 have C:=h.AM.at_ i p j;have hn:=h.AM.room p (mG j);cases q with
 | none=>
  have R:T=0:=I;subst R;refine(or_nil C).mono ?_;rintro e w' ⟨rfl,rfl⟩;rw[Nat.or_zero];have U:S.set i (S.getD i 0)=S:=by have l:=(sG.1 j).1;rw[h.AM.len]at l;rw[dG,eG l];exact List.set_getElem_self l
  rw[U];exact⟨oA,h,Am.refl _ _⟩
 | some s=>obtain⟨a,b,d⟩:=I;refine(G8 C a (by rw[b,hn])).mono ?_;rintro e w' ⟨rfl,J,o⟩;have t:Am (XP P) wr w':=o.one (mG j);exact⟨rfl,h.Kb t (h.AM.E0 j J o),t⟩
def Mk.TJ(h:Mk w1 w3 wr mb fb n c v lv rv tlv uv cv bv av ev g base P S ED FR){j:Nat}{p q:AH}(l:P[i]?=oM p)(C:P[j]?=oM q) :
  () 189 #[p.v,q.v] wr fun e w'=>e=oQ (oK ((S.getD i 0|||S.getD j 0) != S.getD i 0))/\Mk w1 w3 w' mb fb n c v lv rv tlv uv cv bv av ev g base P (S.set i (S.getD i 0|||S.getD j 0)) ED FR/\Am (XP P) wr w':=by
 have R:=h.AM.room p (mG l);have J:=h.AM.room q (mG C);refine(G8 (h.AM.at_ i p l) (h.AM.at_ j q C) (by rw[R,J])).mono ?_;rintro e w' ⟨rfl,I,o⟩;have t:Am (XP P) wr w':=o.one (mG l);exact⟨rfl,h.Kb t (h.AM.E0 l I o),t⟩
def OO(mb:Nat)(f:Nat->oV):Act:={tmps:=#[oI (oM ⟨mb,0,oN⟩),f 1,f 2,f 3,f 4,f 5,f 6,f 7,f 8,f 9,f 10,f 11,f 12,f 13,f 14,f 15,f 16,f 17,f 18,f 19,f 20,f 21,f 22,f 23,f 24,f 25,f 26,f 27,f 28,f 29,f 30,f 31,f 32,f 33,f 34,f 35,f 36,f 37,f 38,f 39,f 40,f 41,f 42,f 43,f 44,f 45,f 46,f 47,f 48,f 49,f 50,f 51,f 52,f 53,f 54,f 55,f 56,f 57,f 58,f 59,f 60,f 61],defers:=[]}
def Xo(h:Mk w1 w3 wr mb fb n c v lv rv tlv uv cv bv av ev g base P S ED FR)(bz:∀e∈ED.map (·.2),e.dst<P.length/\e.at_<P.length)(hv:∃x0 x1 x2 x3,v=.agg #[x0,x1,x2,x3])(hP:P.length<=1000000)(hE:ED.length<=1000000){f:Nat}{Sf:List Nat}(hf:Gz.Hv (ED.map (·.2)) f S=oM Sf) :
  () 134 #[(mb,0)] wr fun e w'=>e=oQ (.tuple #[])/\Mk w1 w3 w' mb fb n c v lv rv tlv uv cv bv av ev g base P Sf ED FR:=by
 obtain⟨x0,x1,x2,x3,rfl⟩:=hv;obtain⟨Ae,ce,cu⟩:=CG h.EK;obtain⟨Aa,R,ct⟩:=CG h.all;subst cu;subst ct;have HM:=Hd h;have HF:=Hd hf;have ch:=Hd bz;clear h hf bz;go_enter func134,ntmps134
 go_wp2;refine Vz 0 (fun m a' w'=>∃S',Hid (Mk w1 w3 w' mb fb n c (.agg #[x0,x1,x2,x3]) lv rv tlv uv cv bv (oG Aa P.length R) (oG Ae ED.length ce) g base P S' ED FR)/\Hid (Gz.Hv (ED.map (·.2)) m S'=oM Sf)/\a'=OO mb (fun cz=>a'.tmps.getD cz undef)) rfl ?pass ?first
 case first=>intro HJ;have cj:=Hd HJ;clear HJ;refine wp_seq (wp_label ?_);refine cj f _ _ ?_;exact⟨S,HM,HF,rfl⟩
 case pass=>
  rintro m a' w2 ⟨S2,HS,bb,ha⟩;obtain⟨f,hf⟩:∃f,a'=OO mb f:=⟨_,ha⟩
  clear ha;subst hf;unfold OO;cases m with
  | zero=>have h:=bb.out;simp[Gz.Hv]at h
  | succ m=>
   obtain⟨A',m',c8,c6⟩:∃A' m',Gz.Fx (ED.map (·.2)) S2 false=(A',m')/\(if m' then Gz.Hv (ED.map (·.2)) m A'=oM Sf else A'=Sf):=by
    have h:=bb.out;unfold Gz.Hv at h;split at h
    ·rename_i A' hA
     exact⟨A',true,hA,by rw[if_pos rfl];exact h⟩
    ·rename_i A' hA
     exact⟨A',false,hA,by rw[if_neg oA];exact Option.some.inj h⟩
   have ck:=Hd c8;have bn:=Hd c6;have cc:oT w2 (mb,11)=oM (oG Ae ED.length ce):=HS.cells.2.2.2.2.2.2.2.2.1;clear c8 c6 bb;obtain⟨ne,bi⟩:∃k,ED.length=k:=⟨_,rfl⟩
   obtain⟨T,bj⟩:∃k,P.length=k:=⟨_,rfl⟩
   have b8:=Hd bi;have b9:=Hd bj;rw[bi]at cc hE;rw[bj]at hP;clear bi bj;go_wp2_with fail
   go_loopw [2,10] (fun mo ii w'=>∃(k:Nat) (mm:Bool) (A:List Nat),k<=ne/\ii=oH oO k/\mo=oK mm/\Hid (Mk w1 w3 w' mb fb n c (.agg #[x0,x1,x2,x3]) lv rv tlv uv cv bv (oG Aa P.length R) (oG Ae ED.length ce) g base P A ED FR)/\Hid (Gz.Fx ((ED.map (·.2)).drop k) A mm=(A',m'))) (fun _ ii _=>ne-(intOf ii).toNat)
   case atStart=>exact⟨0,false,S2,AX _,rfl,rfl,HS,ck⟩
   case round=>
    obtain⟨k,mm,A,hk,rfl,rfl,HA,ba⟩:=hrel;rename oU=>w4
    clear cc;by_cases cw:k<ne
    ·obtain⟨⟨q,⟨j,p,es,ef⟩⟩,hx⟩:∃x,ED[k]?=oM x:=⟨_,eG (by rw[b8.out];exact cw)⟩
     have bl:=mG hx;obtain⟨bf,bh⟩:=ch ⟨j,p,es,ef⟩ (List.mem_map.2 ⟨_,bl,rfl⟩);simp only at bf bh;obtain⟨pd,c9⟩:∃an,P[j]?=oM an:=⟨_,eG bf⟩
     obtain⟨pa,c7⟩:∃an,P[p]?=oM an:=⟨_,eG bh⟩
     have bx:(ED.map (·.2)).drop k=⟨j,p,es,ef⟩::(ED.map (·.2)).drop (k+1):=I6 (by rw[pG,hx];rfl);have az:=Hd ba;rw[bx]at az;have cf:=Hd (HA.J0 _ bl);have b0:=Hd c9;have ay:=Hd c7;obtain⟨au,c0⟩:=sG.1 hx;have e0:=CP Dw 4 (fun _=>rfl) ED k 0 au nX;have e1:=CP Dw 4 (fun _=>rfl) ED k 1 au nX;have e2:=CP Dw 4 (fun _=>rfl) ED k 2 au nX;have e3:=CP Dw 4 (fun _=>rfl) ED k 3 au nX;rw[c0]at e0 e1 e2 e3;obtain⟨be,cr⟩:∃be,Ae=oM ⟨be,0,oN⟩:=by
      rcases Bj HA.EK with⟨_,h0⟩|⟨b,c',h1,_⟩
      ·rw[b8.out]at h0;omega
      ·cases h1;exact⟨b,rfl⟩
     subst cr;obtain⟨l,cq⟩:∃l,Aa=oM ⟨l,0,oN⟩:=by
      rcases Bj HA.all with⟨_,h0⟩|⟨b,c',h1,_⟩
      ·omega
      ·cases h1;exact⟨b,rfl⟩
     subst cq;have ax:=HA.EK;have d0:oT w4 ⟨be,k*4,oN⟩=oM (oH oO j):=by rw[Bh ax (k*4) nX];rw[Nat.add_zero]at e0;exact e0
     have d1:oT w4 ⟨be,k*4+1,oN⟩=oM (oH oO p):=by rw[Bh ax (k*4+1) nX];exact e1
     have d2:oT w4 ⟨be,k*4+2,oN⟩=oM (hV q):=by rw[Bh ax (k*4+2) nX];exact e2
     have d3:oT w4 ⟨be,k*4+3,oN⟩=oM (oK ef):=by rw[Bh ax (k*4+3) nX];exact e3
     have cm:Hid (∀y (A2:List Nat),Mk w1 w3 y mb fb n c (.agg #[x0,x1,x2,x3]) lv rv tlv uv cv bv (oG (oM ⟨l,0,oN⟩) P.length R) (oG (oM ⟨be,0,oN⟩) ED.length ce) g base P A2 ED FR->oT y (mb,10)=oM (oG (oM ⟨l,0,oN⟩) T R)/\oT y ⟨l,j,oN⟩=oM (oI (pd.h,0))/\oT y ⟨l,p,oN⟩=oM (oI (pa.h,0))):=Hd (fun y A2 J=>by
      refine⟨by rw[<-b9.out];exact J.cells.2.2.2.2.2.2.2.1,?_,?_⟩
      ·rw[Bh J.all j nX,pG,b0.out];rfl
      ·rw[Bh J.all p nX,pG,ay.out];rfl)
     obtain⟨I,bk⟩:∃I,hV q=.pointer I:=by cases q<;>exact⟨_,rfl⟩
     rw[bk]at d2;have cl:=Hd bk;clear hx bl c9 c7 bx au c0 e0 e1 e2 e3 ax bk ba;rw[b9.out]at bf bh;go_upto_region 4 with fail
     have ab:Hid (Ah (w4.alloc (oP #[j,p,.pointer I,oK ef] 272)) w4.heap.size 272 #[j,p,.pointer I,oK ef]):=Hd (Ah.new w4 272 _);have ai:=Hd (HA.later (DM w4 (oP #[j,p,.pointer I,oK ef] 272)));have cg:=Hd (cf.later (DM w4 (oP #[j,p,.pointer I,oK ef] 272)));generalize w4.alloc (oP #[j,p,.pointer I,oK ef] 272)=w5 at *;generalize w4.heap.size=o at *;clear d0 d1 d2 d3;have ag:Hid (∀y (A2:List Nat),Mk w1 w3 y mb fb n c (.agg #[x0,x1,x2,x3]) lv rv tlv uv cv bv (oG (oM ⟨l,0,oN⟩) P.length R) (oG (oM ⟨be,0,oN⟩) ED.length ce) g base P A2 ED FR->Ah y o 272 #[j,p,.pointer I,oK ef]->(fun(v:oU)=>oT v (mb,10)=oM (oG (oM ⟨l,0,oN⟩) T R)/\oT v (o,0)=oM (oH oO j)/\oT v (o,1)=oM (oH oO p)/\oT v (o,2)=oM (.pointer I)/\oT v ⟨l,j,oN⟩=oM (oI (pd.h,0))/\oT v ⟨l,p,oN⟩=oM (oI (pa.h,0))) y):=Hd (fun y A2 J hb=>by
      obtain⟨a1,a2,a3⟩:=cm y A2 J;exact⟨a1,hb.cell 0,hb.cell 1,hb.cell 2,a2,a3⟩)
     have b3:=Hd (fun Y (J:Below w5 w5 Y)=>ag Y _ (ai.later J) (ab.below J ab.lt));have ah:Hid (Below w5 w5 w5.drew):=Hd ((Below.refl _ w5).drew);obtain⟨qq,bw,ca,cb⟩:=Us ((ai.later ah).AM.at_ p pa ay);have bo:=Hd bw;unfold AH.v at bo;have bt:=Hd (And.intro ca cb);have d5:(j:Int)<(T:Int):=by omega
     have d4:(p:Int)<(T:Int):=by omega
     clear bw ca cb
     go_region_held3 (fun(v:oU)=>oT v (mb,10)=oM (oG (oM ⟨l,0,oN⟩) T R)/\oT v (o,0)=oM (oH oO j)/\oT v (o,1)=oM (oH oO p)/\oT v (o,2)=oM (.pointer I)/\oT v ⟨l,j,oN⟩=oM (oI (pd.h,0))/\oT v ⟨l,p,oN⟩=oM (oI (pa.h,0)))
      (first|exact b3 _ ah)
      (first|(go_at_call 187;refine bo.mono ?_;rintro e C ⟨rfl,rfl⟩))
     by_cases hz:A.getD p 0=0
     ·have cx:qq<0:=bt.1 hz
      have a5:Hid (Gz.Fx ((ED.map (·.2)).drop (k+1)) A mm=(A',m')):=Hd (by have h:=az.out;unfold Gz.Fx at h;rw[if_pos hz]at h;exact h)
      clear hz;go_wp2_with fail
      go_roundw
      case rel=>exact⟨k+1,mm,A,nX,oD,rfl,Hd (ai.later ah),a5⟩
      case measure=>simp[intOf];omega
     ·have cx:¬(qq<0):=by have:=bt.2 hz;omega
      obtain⟨X0,b5⟩:∃x,A.getD j 0=x:=⟨_,rfl⟩
      obtain⟨X1,b6⟩:∃x,X0|||es=x:=⟨_,rfl⟩
      obtain⟨X2,bc⟩:∃x,X1|||(if j=p then X1 else A.getD p 0)=x:=⟨_,rfl⟩
      obtain⟨b1,bd⟩:∃b,(X1 != X0)=b:=⟨_,rfl⟩
      have bq:Hid (ef=false->Gz.Fx ((ED.map (·.2)).drop (k+1)) (A.set j X1) (b1||mm)=(A',m')):=Hd (fun e=>by have h:=az.out;subst e;unfold Gz.Fx at h;rw[if_neg hz]at h;simp only[Bool.false_eq_true,if_false]at h;rw[b5,b6,bd]at h;exact h)
      have br:Hid (ef=true->Gz.Fx ((ED.map (·.2)).drop (k+1)) ((A.set j X1).set j X2) ((X2 != X1)||(b1||mm))=(A',m')):=Hd (fun e=>by have h:=az.out;subst e;unfold Gz.Fx at h;rw[if_neg hz]at h;simp only[if_true]at h;rw[b5,b6,bc,bd]at h;rw[List.set_set];exact h)
      have b4:Hid ((A.set j X1).getD j 0|||(A.set j X1).getD p 0=X2/\(A.set j X1).getD j 0=X1):=Hd (by
       have hl:j<A.length:=by have h:=ai.AM.len;have h2:=b9.out;omega
       have h1:(A.set j X1).getD j 0=X1:=by rw[dG,tG hl];rfl
       refine⟨?_,h1⟩;rw[h1,<-bc];congr 1;by_cases he:j=p
       ·rw[if_pos he,<-he];exact h1
       ·rw[if_neg he,dG,uG he,<-dG])
      have bp:Hid (() 189 #[(pd.h,0),.pointer I] w5.drew.drew fun e w'=>e=oQ (oK b1)/\Mk w1 w3 w' mb fb n c (.agg #[x0,x1,x2,x3]) lv rv tlv uv cv bv (oG (oM ⟨l,0,oN⟩) P.length R) (oG (oM ⟨be,0,oN⟩) ED.length ce) g base P (A.set j X1) ED FR/\Am (XP P) w5.drew.drew w'):=Hd (by have h:=(ai.later (ah.drew)).XU b0 (cg.later (ah.drew));rw[cl.out,b5]at h;rw[b6,bd]at h;exact h)
      have bm:Hid (∀(cs:Array oV),∀b,Ah w5.drew.drew b 272 cs->¬XP P b):=Hd (fun cs b hb=>by rintro⟨an,hp,rfl⟩;obtain⟨bu,hT⟩:=(ai.later (ah.drew)).AM.mem hp;exact Ah.Bb hb hT.words nY rfl)
      have ab:Hid (Ah w5.drew o 272 #[j,p,.pointer I,oK ef]):=Hd ab.drew;have b3:=Hd (fun Y (J:Below w5.drew.heap.size w5.drew Y)=>ag Y _ ((ai.later ah).later J) (ab.below J ab.lt));clear b5 b6 bc hz;generalize w5.drew=w5 at *;cases b1 with
      | true=>
       go_upto_region 5 with fail
       refine DY 14 (fun(v:oU)=>oT v (mb,10)=oM (oG (oM ⟨l,0,oN⟩) T R)/\oT v (o,0)=oM (oH oO j)/\oT v (o,1)=oM (oH oO p)/\oT v (o,2)=oM (.pointer I)/\oT v ⟨l,j,oN⟩=oM (oI (pd.h,0))/\oT v ⟨l,p,oN⟩=oM (oI (pa.h,0))) nZ ?_;have i:(fun(v:oU)=>oT v (mb,10)=oM (oG (oM ⟨l,0,oN⟩) T R)/\oT v (o,0)=oM (oH oO j)/\oT v (o,1)=oM (oH oO p)/\oT v (o,2)=oM (.pointer I)/\oT v ⟨l,j,oN⟩=oM (oI (pd.h,0))/\oT v ⟨l,p,oN⟩=oM (oI (pa.h,0))) w5.drew:=b3 _ ((Below.refl _ w5).drew)
       refine AF 0 i ?_;simp only[AD,AE];refine AF 1 i ?_;simp only[AD,AE];refine AF 2 i ?_;simp only[AD,AE];refine AF 3 i ?_;simp only[AD,AE];refine AF 4 i ?_;simp only[AD,AE];refine AF 5 i ?_;simp only[AD,AE];refine AF 6 i ?_;simp only[AD,AE];refine AF 7 i ?_;simp only[AD,AE];refine AF 8 i ?_;simp only[AD,AE];refine AF 9 i ?_;simp only[AD,AE];clear i;refine Bm 10 nZ rfl rfl (fun K t=>?_);go_simp;refine bp.mono ?_;rintro e C ⟨rfl,aw,ar⟩;have ad:=Hd aw
       have al:=ab.below ((Below.refl _ w5).drew) ab.lt;have a0:=Hd (ar.Aj al (fun e=>bm _ _ al e));clear ar aw al;have af:=Hd (fun Y (J:Below C C Y)=>ag Y _ (ad.later J) (a0.below J a0.lt));refine t _ _ (fun _=>af C (Below.refl _ _)) ?_;clear t K;have i:(fun(v:oU)=>oT v (mb,10)=oM (oG (oM ⟨l,0,oN⟩) T R)/\oT v (o,0)=oM (oH oO j)/\oT v (o,1)=oM (oH oO p)/\oT v (o,2)=oM (.pointer I)/\oT v ⟨l,j,oN⟩=oM (oI (pd.h,0))/\oT v ⟨l,p,oN⟩=oM (oI (pa.h,0))) C:=af C (Below.refl _ _)
       refine AF 11 i ?_;simp only[AD,AE];refine JN 12 rfl nZ nZ nZ nZ (fun _ _ _ h=>h) (Or.inr ⟨oF,rfl⟩) i rfl ?rc12;simp only[List.set_cons_succ,List.set_cons_zero];refine AF 13 i ?_;simp only[AD,AE];clear i;refine Bm 14 nZ rfl rfl (fun K t=>?_);go_simp;refine t _ _ (fun h=>absurd rfl h) ?_;clear t K;refine D0 nZ ?_ _;have e3:oT C (o,3)=oM (oK ef):=Ah.cell a0 3;have cn:=a0.lt;cases ef with
       | false=>
        have a5:=Hd (bq rfl);go_wp2_with fail
        go_roundw
        case rel=>exact⟨k+1,true,_,nX,oD,rfl,ad,a5⟩
        case measure=>simp[intOf];omega
       | true=>
        have ak:=Hd (br rfl);have ae:=Hd ((ad.later ((Below.refl _ C).drew)).TJ b0 ay);have ao:Hid (∀(cs:Array oV),∀b,Ah C.drew b 272 cs->¬XP P b):=Hd (fun cs b hb=>by rintro⟨an,hp,rfl⟩;obtain⟨bu,hT⟩:=(ad.later ((Below.refl _ C).drew)).AM.mem hp;exact Ah.Bb hb hT.words nY rfl)
        rw[b4.1,b4.2]at ae;obtain⟨b2,aq⟩:∃b,(X2 != X1)=b:=⟨_,rfl⟩
        unfold AH.v at ae;have aj:=Hd ae;rw[aq]at aj ak;clear ae aq;cases b2 with
        | true=>
         have a5:=ak;go_upto_region 7 with fail
         refine DY 20 (fun(v:oU)=>oT v (mb,10)=oM (oG (oM ⟨l,0,oN⟩) T R)/\oT v (o,0)=oM (oH oO j)/\oT v (o,1)=oM (oH oO p)/\oT v (o,2)=oM (.pointer I)/\oT v ⟨l,j,oN⟩=oM (oI (pd.h,0))/\oT v ⟨l,p,oN⟩=oM (oI (pa.h,0))) nZ ?_;have i:(fun(v:oU)=>oT v (mb,10)=oM (oG (oM ⟨l,0,oN⟩) T R)/\oT v (o,0)=oM (oH oO j)/\oT v (o,1)=oM (oH oO p)/\oT v (o,2)=oM (.pointer I)/\oT v ⟨l,j,oN⟩=oM (oI (pd.h,0))/\oT v ⟨l,p,oN⟩=oM (oI (pa.h,0))) C.drew:=af _ ((Below.refl _ C).drew)
         refine AF 0 i ?_;simp only[AD,AE];refine AF 1 i ?_;simp only[AD,AE];refine AF 2 i ?_;simp only[AD,AE];refine AF 3 i ?_;simp only[AD,AE];refine AF 4 i ?_;simp only[AD,AE];refine AF 5 i ?_;simp only[AD,AE];refine AF 6 i ?_;simp only[AD,AE];refine AF 7 i ?_;simp only[AD,AE];refine AF 8 i ?_;simp only[AD,AE];refine AF 9 i ?_;simp only[AD,AE];refine AF 10 i ?_;simp only[AD,AE];refine AF 11 i ?_;simp only[AD,AE];refine AF 12 i ?_;simp only[AD,AE];refine AF 13 i ?_;simp only[AD,AE]
         refine AF 14 i ?_;simp only[AD,AE];refine AF 15 i ?_;simp only[AD,AE];clear i;refine Bm 16 nZ rfl rfl (fun K t=>?_);go_simp;refine aj.mono ?_;rintro e U ⟨rfl,aa,a9⟩;have a6:=Hd aa;have a4:=a0.below ((Below.refl _ C).drew) a0.lt;have a8:=Hd (a9.Aj a4 (fun e=>ao _ _ a4 e));clear a9 aa a4;have a7:=Hd (fun Y (J:Below U U Y)=>ag Y _ (a6.later J) (a8.below J a8.lt));refine t _ _ (fun _=>a7 U (Below.refl _ _)) ?_;clear t K;have i:(fun(v:oU)=>oT v (mb,10)=oM (oG (oM ⟨l,0,oN⟩) T R)/\oT v (o,0)=oM (oH oO j)/\oT v (o,1)=oM (oH oO p)/\oT v (o,2)=oM (.pointer I)/\oT v ⟨l,j,oN⟩=oM (oI (pd.h,0))/\oT v ⟨l,p,oN⟩=oM (oI (pa.h,0))) U:=a7 U (Below.refl _ _)
         refine AF 17 i ?_;simp only[AD,AE];refine JN 18 rfl nZ nZ nZ nZ (fun _ _ _ h=>h) (Or.inr ⟨oF,rfl⟩) i rfl ?re18;simp only[List.set_cons_succ,List.set_cons_zero];refine AF 19 i ?_;simp only[AD,AE];clear i;refine Bm 20 nZ rfl rfl (fun K t=>?_);go_simp;refine t _ _ (fun h=>absurd rfl h) ?_;clear t K;refine D0 nZ ?_ _;go_wp2_with fail
         go_roundw
         case rel=>exact⟨k+1,true,_,nX,oD,rfl,a6,a5⟩
         case measure=>simp[intOf];omega
        | false=>
         have a5:=ak;go_upto_region 7 with fail
         refine DY 20 (fun(v:oU)=>oT v (mb,10)=oM (oG (oM ⟨l,0,oN⟩) T R)/\oT v (o,0)=oM (oH oO j)/\oT v (o,1)=oM (oH oO p)/\oT v (o,2)=oM (.pointer I)/\oT v ⟨l,j,oN⟩=oM (oI (pd.h,0))/\oT v ⟨l,p,oN⟩=oM (oI (pa.h,0))) nZ ?_;have i:(fun(v:oU)=>oT v (mb,10)=oM (oG (oM ⟨l,0,oN⟩) T R)/\oT v (o,0)=oM (oH oO j)/\oT v (o,1)=oM (oH oO p)/\oT v (o,2)=oM (.pointer I)/\oT v ⟨l,j,oN⟩=oM (oI (pd.h,0))/\oT v ⟨l,p,oN⟩=oM (oI (pa.h,0))) C.drew:=af _ ((Below.refl _ C).drew)
         refine AF 0 i ?_;simp only[AD,AE];refine AF 1 i ?_;simp only[AD,AE];refine AF 2 i ?_;simp only[AD,AE];refine AF 3 i ?_;simp only[AD,AE];refine AF 4 i ?_;simp only[AD,AE];refine AF 5 i ?_;simp only[AD,AE];refine AF 6 i ?_;simp only[AD,AE];refine AF 7 i ?_;simp only[AD,AE];refine AF 8 i ?_;simp only[AD,AE];refine AF 9 i ?_;simp only[AD,AE];refine AF 10 i ?_;simp only[AD,AE];refine AF 11 i ?_;simp only[AD,AE];refine AF 12 i ?_;simp only[AD,AE];refine AF 13 i ?_;simp only[AD,AE]
         refine AF 14 i ?_;simp only[AD,AE];refine AF 15 i ?_;simp only[AD,AE];clear i;refine Bm 16 nZ rfl rfl (fun K t=>?_);go_simp;refine aj.mono ?_;rintro e U ⟨rfl,aa,a9⟩;have a6:=Hd aa;have a4:=a0.below ((Below.refl _ C).drew) a0.lt;have a8:=Hd (a9.Aj a4 (fun e=>ao _ _ a4 e));clear a9 aa a4;have a7:=Hd (fun Y (J:Below U U Y)=>ag Y _ (a6.later J) (a8.below J a8.lt));refine t _ _ (fun _=>a7 U (Below.refl _ _)) ?_;clear t K;have i:(fun(v:oU)=>oT v (mb,10)=oM (oG (oM ⟨l,0,oN⟩) T R)/\oT v (o,0)=oM (oH oO j)/\oT v (o,1)=oM (oH oO p)/\oT v (o,2)=oM (.pointer I)/\oT v ⟨l,j,oN⟩=oM (oI (pd.h,0))/\oT v ⟨l,p,oN⟩=oM (oI (pa.h,0))) U:=a7 U (Below.refl _ _)
         refine AF 17 i ?_;simp only[AD,AE];refine AF 18 i ?_;simp only[AD,AE];refine AF 19 i ?_;simp only[AD,AE];clear i;refine Bm 20 nZ rfl rfl (fun K t=>?_);go_simp;refine t _ _ (fun h=>absurd rfl h) ?_;clear t K;refine D0 nZ ?_ _;go_wp2_with fail
         go_roundw
         case rel=>exact⟨k+1,true,_,nX,oD,rfl,a6,a5⟩
         case measure=>simp[intOf];omega
      | false=>
       go_upto_region 5 with fail
       refine DY 14 (fun(v:oU)=>oT v (mb,10)=oM (oG (oM ⟨l,0,oN⟩) T R)/\oT v (o,0)=oM (oH oO j)/\oT v (o,1)=oM (oH oO p)/\oT v (o,2)=oM (.pointer I)/\oT v ⟨l,j,oN⟩=oM (oI (pd.h,0))/\oT v ⟨l,p,oN⟩=oM (oI (pa.h,0))) nZ ?_;have i:(fun(v:oU)=>oT v (mb,10)=oM (oG (oM ⟨l,0,oN⟩) T R)/\oT v (o,0)=oM (oH oO j)/\oT v (o,1)=oM (oH oO p)/\oT v (o,2)=oM (.pointer I)/\oT v ⟨l,j,oN⟩=oM (oI (pd.h,0))/\oT v ⟨l,p,oN⟩=oM (oI (pa.h,0))) w5.drew:=b3 _ ((Below.refl _ w5).drew)
       refine AF 0 i ?_;simp only[AD,AE];refine AF 1 i ?_;simp only[AD,AE];refine AF 2 i ?_;simp only[AD,AE];refine AF 3 i ?_;simp only[AD,AE];refine AF 4 i ?_;simp only[AD,AE];refine AF 5 i ?_;simp only[AD,AE];refine AF 6 i ?_;simp only[AD,AE];refine AF 7 i ?_;simp only[AD,AE];refine AF 8 i ?_;simp only[AD,AE];refine AF 9 i ?_;simp only[AD,AE];clear i;refine Bm 10 nZ rfl rfl (fun K t=>?_);go_simp;refine bp.mono ?_;rintro e C ⟨rfl,aw,ar⟩;have ad:=Hd aw
       have al:=ab.below ((Below.refl _ w5).drew) ab.lt;have a0:=Hd (ar.Aj al (fun e=>bm _ _ al e));clear ar aw al;have af:=Hd (fun Y (J:Below C C Y)=>ag Y _ (ad.later J) (a0.below J a0.lt));refine t _ _ (fun _=>af C (Below.refl _ _)) ?_;clear t K;have i:(fun(v:oU)=>oT v (mb,10)=oM (oG (oM ⟨l,0,oN⟩) T R)/\oT v (o,0)=oM (oH oO j)/\oT v (o,1)=oM (oH oO p)/\oT v (o,2)=oM (.pointer I)/\oT v ⟨l,j,oN⟩=oM (oI (pd.h,0))/\oT v ⟨l,p,oN⟩=oM (oI (pa.h,0))) C:=af C (Below.refl _ _)
       refine AF 11 i ?_;simp only[AD,AE];refine AF 12 i ?_;simp only[AD,AE];refine AF 13 i ?_;simp only[AD,AE];clear i;refine Bm 14 nZ rfl rfl (fun K t=>?_);go_simp;refine t _ _ (fun h=>absurd rfl h) ?_;clear t K;refine D0 nZ ?_ _;have e3:oT C (o,3)=oM (oK ef):=Ah.cell a0 3;have cn:=a0.lt;cases ef with
       | false=>
        have a5:=Hd (bq rfl);go_wp2_with fail
        go_roundw
        case rel=>exact⟨k+1,mm,_,nX,oD,rfl,ad,a5⟩
        case measure=>simp[intOf];omega
       | true=>
        have ak:=Hd (br rfl);have ae:=Hd ((ad.later ((Below.refl _ C).drew)).TJ b0 ay);have ao:Hid (∀(cs:Array oV),∀b,Ah C.drew b 272 cs->¬XP P b):=Hd (fun cs b hb=>by rintro⟨an,hp,rfl⟩;obtain⟨bu,hT⟩:=(ad.later ((Below.refl _ C).drew)).AM.mem hp;exact Ah.Bb hb hT.words nY rfl)
        rw[b4.1,b4.2]at ae;obtain⟨b2,aq⟩:∃b,(X2 != X1)=b:=⟨_,rfl⟩
        unfold AH.v at ae;have aj:=Hd ae;rw[aq]at aj ak;clear ae aq;cases b2 with
        | true=>
         have a5:=ak;go_upto_region 7 with fail
         refine DY 20 (fun(v:oU)=>oT v (mb,10)=oM (oG (oM ⟨l,0,oN⟩) T R)/\oT v (o,0)=oM (oH oO j)/\oT v (o,1)=oM (oH oO p)/\oT v (o,2)=oM (.pointer I)/\oT v ⟨l,j,oN⟩=oM (oI (pd.h,0))/\oT v ⟨l,p,oN⟩=oM (oI (pa.h,0))) nZ ?_;have i:(fun(v:oU)=>oT v (mb,10)=oM (oG (oM ⟨l,0,oN⟩) T R)/\oT v (o,0)=oM (oH oO j)/\oT v (o,1)=oM (oH oO p)/\oT v (o,2)=oM (.pointer I)/\oT v ⟨l,j,oN⟩=oM (oI (pd.h,0))/\oT v ⟨l,p,oN⟩=oM (oI (pa.h,0))) C.drew:=af _ ((Below.refl _ C).drew)
         refine AF 0 i ?_;simp only[AD,AE];refine AF 1 i ?_;simp only[AD,AE];refine AF 2 i ?_;simp only[AD,AE];refine AF 3 i ?_;simp only[AD,AE];refine AF 4 i ?_;simp only[AD,AE];refine AF 5 i ?_;simp only[AD,AE];refine AF 6 i ?_;simp only[AD,AE];refine AF 7 i ?_;simp only[AD,AE];refine AF 8 i ?_;simp only[AD,AE];refine AF 9 i ?_;simp only[AD,AE];refine AF 10 i ?_;simp only[AD,AE];refine AF 11 i ?_;simp only[AD,AE];refine AF 12 i ?_;simp only[AD,AE];refine AF 13 i ?_;simp only[AD,AE]
         refine AF 14 i ?_;simp only[AD,AE];refine AF 15 i ?_;simp only[AD,AE];clear i;refine Bm 16 nZ rfl rfl (fun K t=>?_);go_simp;refine aj.mono ?_;rintro e U ⟨rfl,aa,a9⟩;have a6:=Hd aa;have a4:=a0.below ((Below.refl _ C).drew) a0.lt;have a8:=Hd (a9.Aj a4 (fun e=>ao _ _ a4 e));clear a9 aa a4;have a7:=Hd (fun Y (J:Below U U Y)=>ag Y _ (a6.later J) (a8.below J a8.lt));refine t _ _ (fun _=>a7 U (Below.refl _ _)) ?_;clear t K;have i:(fun(v:oU)=>oT v (mb,10)=oM (oG (oM ⟨l,0,oN⟩) T R)/\oT v (o,0)=oM (oH oO j)/\oT v (o,1)=oM (oH oO p)/\oT v (o,2)=oM (.pointer I)/\oT v ⟨l,j,oN⟩=oM (oI (pd.h,0))/\oT v ⟨l,p,oN⟩=oM (oI (pa.h,0))) U:=a7 U (Below.refl _ _)
         refine AF 17 i ?_;simp only[AD,AE];refine JN 18 rfl nZ nZ nZ nZ (fun _ _ _ h=>h) (Or.inr ⟨oF,rfl⟩) i rfl ?rk18;simp only[List.set_cons_succ,List.set_cons_zero];refine AF 19 i ?_;simp only[AD,AE];clear i;refine Bm 20 nZ rfl rfl (fun K t=>?_);go_simp;refine t _ _ (fun h=>absurd rfl h) ?_;clear t K;refine D0 nZ ?_ _;go_wp2_with fail
         go_roundw
         case rel=>exact⟨k+1,true,_,nX,oD,rfl,a6,a5⟩
         case measure=>simp[intOf];omega
        | false=>
         have a5:=ak;go_upto_region 7 with fail
         refine DY 20 (fun(v:oU)=>oT v (mb,10)=oM (oG (oM ⟨l,0,oN⟩) T R)/\oT v (o,0)=oM (oH oO j)/\oT v (o,1)=oM (oH oO p)/\oT v (o,2)=oM (.pointer I)/\oT v ⟨l,j,oN⟩=oM (oI (pd.h,0))/\oT v ⟨l,p,oN⟩=oM (oI (pa.h,0))) nZ ?_;have i:(fun(v:oU)=>oT v (mb,10)=oM (oG (oM ⟨l,0,oN⟩) T R)/\oT v (o,0)=oM (oH oO j)/\oT v (o,1)=oM (oH oO p)/\oT v (o,2)=oM (.pointer I)/\oT v ⟨l,j,oN⟩=oM (oI (pd.h,0))/\oT v ⟨l,p,oN⟩=oM (oI (pa.h,0))) C.drew:=af _ ((Below.refl _ C).drew)
         refine AF 0 i ?_;simp only[AD,AE];refine AF 1 i ?_;simp only[AD,AE];refine AF 2 i ?_;simp only[AD,AE];refine AF 3 i ?_;simp only[AD,AE];refine AF 4 i ?_;simp only[AD,AE];refine AF 5 i ?_;simp only[AD,AE];refine AF 6 i ?_;simp only[AD,AE];refine AF 7 i ?_;simp only[AD,AE];refine AF 8 i ?_;simp only[AD,AE];refine AF 9 i ?_;simp only[AD,AE];refine AF 10 i ?_;simp only[AD,AE];refine AF 11 i ?_;simp only[AD,AE];refine AF 12 i ?_;simp only[AD,AE];refine AF 13 i ?_;simp only[AD,AE]
         refine AF 14 i ?_;simp only[AD,AE];refine AF 15 i ?_;simp only[AD,AE];clear i;refine Bm 16 nZ rfl rfl (fun K t=>?_);go_simp;refine aj.mono ?_;rintro e U ⟨rfl,aa,a9⟩;have a6:=Hd aa;have a4:=a0.below ((Below.refl _ C).drew) a0.lt;have a8:=Hd (a9.Aj a4 (fun e=>ao _ _ a4 e));clear a9 aa a4;have a7:=Hd (fun Y (J:Below U U Y)=>ag Y _ (a6.later J) (a8.below J a8.lt));refine t _ _ (fun _=>a7 U (Below.refl _ _)) ?_;clear t K;have i:(fun(v:oU)=>oT v (mb,10)=oM (oG (oM ⟨l,0,oN⟩) T R)/\oT v (o,0)=oM (oH oO j)/\oT v (o,1)=oM (oH oO p)/\oT v (o,2)=oM (.pointer I)/\oT v ⟨l,j,oN⟩=oM (oI (pd.h,0))/\oT v ⟨l,p,oN⟩=oM (oI (pa.h,0))) U:=a7 U (Below.refl _ _)
         refine AF 17 i ?_;simp only[AD,AE];refine AF 18 i ?_;simp only[AD,AE];refine AF 19 i ?_;simp only[AD,AE];clear i;refine Bm 20 nZ rfl rfl (fun K t=>?_);go_simp;refine t _ _ (fun h=>absurd rfl h) ?_;clear t K;refine D0 nZ ?_ _;go_wp2_with fail
         go_roundw
         case rel=>exact⟨k+1,mm,_,nX,oD,rfl,a6,a5⟩
         case measure=>simp[intOf];omega
    ·obtain rfl:k=ne:=by omega
     have cd:Hid (A=A'/\mm=m'):=Hd (by have h:=ba.out;rw[List.drop_eq_nil_of_le (by rw[lM,b8.out];exact Ay _)]at h;unfold Gz.Fx at h;exact⟨congrArg Prod.fst h,congrArg Prod.snd h⟩)
     obtain⟨cp,cy⟩:=cd.out;subst cp;subst cy;cases mm with
     | true=>
      have b7:Hid (Gz.Hv (ED.map (·.2)) m A=oM Sf):=Hd (by have h:=bn.out;rwa [if_pos rfl]at h);go_wp2_with fail
      go_step3
      refine Ti ?_;exact⟨m,Nat.lt_succ_self m,A,HA,b7,rfl⟩
     | false=>
      have b7:Hid (A=Sf):=Hd (by have h:=bn.out;rwa [if_neg oA]at h);rw[b7.out]at HA;go_wp2_with fail
      simp only[Exit.jump]
      go_end0
      exact⟨rfl,HA⟩
end
def VQ:El Tryz.prog 124 165 2 32:=El.of (z:=.agg #[oH oO 0,oG oN 0 0]) underlying124 nZ rfl nY
def Fw(i:List It)(s:Nat):Option Nat:=(i.reverse.find? (fun p=>p.1==s)).map (·.2)
def RX(i:List It)(x b s:Nat):(if s=x then oM b else Fw i s)=Fw (i++[(x,b)]) s:=by
 unfold Fw;rw[List.reverse_append,List.reverse_singleton,List.singleton_append,List.find?_cons];by_cases h:s=x
 ·subst h
  rw[if_pos rfl];simp
 ·have j:((x,b).1==s)=false:=beq_false_of_ne (fun e=>h e.symm)
  rw[if_neg h,j]
def Wc{i:List It}{s j:Nat}(h:Fw i s=oM j):∃p∈i,p.2=j:=by unfold Fw at h;obtain⟨p,l,e⟩:=Option.map_eq_some_iff.1 h;exact⟨p,List.mem_reverse.1 (List.mem_of_find?_eq_some l),e⟩
theorem Vy(g:Gz):∀(K:List It) (x:It) (b:Nat),g.CU (K++[x]) b=g.CU K b++(if x.2=(g.right x.1).length then[(x.1,b+K.length)] else[])
 | [],x,b=>by
  show g.CU [x] b=_;unfold Gz.CU Gz.CU;split
  ·simp
  ·simp
 | y::K,x,b=>by
  rw[List.cons_append];unfold Gz.CU;rw[Vy g K x (b+1)];have e:b+1+K.length=b+(y::K).length:=by simp;omega
  rw[e];split
  ·rw[List.cons_append]
  ·rfl
theorem O2{g:Gz}:∀(K:List It) (b:Nat),∀p∈g.CU K b,p.2<b+K.length
 | [],b,p,i=>by unfold Gz.CU at i;cases i
 | y::K,b,p,i=>by
  unfold Gz.CU at i;split at i
  ·rcases List.mem_cons.1 i with rfl|h
   ·simp
   ·have:=O2 K (b+1) p h
    simp;omega
  ·have:=O2 K (b+1) p i
   simp;omega
def Iu(z:oV×(Nat×Nat)):List oV:=[oH oO (z.2.1:Nat),z.1]
structure Gx(w wr:oU)(m:Nat)(ov:oV)(Z:List (oV×(Nat×Nat))):Prop where
 below:Below w w wr
 row:wr.ownsRow w 165 2 ov Z.length (Z.flatMap Iu)
 own:∀z∈Z,wr.ownsRow w 3 1 z.1 (Bs m z.2.2).length ((Bs m z.2.2).map AY)
variable{Z:List (oV×(Nat×Nat))}
def Gx.start(w:oU)(m:Nat):Gx w w m (oG oN 0 0) []:=⟨Below.refl _ _,⟨rfl,.inl ⟨rfl,rfl⟩⟩,fun z i=>by cases i⟩
def Gx.later{w wr w2:oU}{m:Nat}{j:oV}(h:Gx w wr m j Z)(i:Below wr wr w2):Gx w w2 m j Z:=
 ⟨h.below.trans (i.mono h.below.size),AU h.row i,fun z l=>AU (h.own z l) i⟩
def Gx.more{w w2 w3:oU}{m:Nat}{p:oV}(h:Gx w w2 m p Z){tv:oV}{S:Nat}(l:w2.ownsRow w 3 1 tv (Bs m S).length ((Bs m S).map AY)){A:Option Addr}{c:Nat}
  (t:w3.ownsRow w 165 2 (oG A (Z.length+1) c) (Z.length+1) (Z.flatMap Iu++Iu (tv,(k,S)))) (j:AI w [165] w2 w3):Gx w w3 m (oG A (Z.length+1) c) (Z++[(tv,(k,S))]):=by
 refine⟨h.below.trans (j.below h.below.size),?_,fun z o=>?_⟩
 ·rw[List.flatMap_append,Cb]
  simpa using t
 ·rcases mA.1 o with i|i
  ·exact j.own (h.own z i) (.inr nY)
  ·rw[mS.1 i]
   exact j.own l (.inr nY)
section
variable {w1 w3 w:oU} {mb fb n c:Nat} {v lv rv tlv uv cv bv av ev:oV} {g:Gz} {V:List (oV×oV)} {L E:List (List It)} {T:List (List (Nat×Bool))} {CC:List (List AV)} {base:List Nat} {P:List AH} {S:List Nat} {ED:List (Option AH×Edge)} {FR:List (oV×List It)}
def NC(w:oU)(m:Nat)(l:List (Nat×Nat))(e:Ending)(w':oU):Prop:=∃A c2 Z,e=oQ (oG A l.length c2)/\Z.map (·.2)=l/\Gx w w' m (oG A l.length c2) Z
def aJ(hs:NS w1 w3 mb fb v lv rv tlv uv cv g V L E T CC)(ar:Small L base)(h:Mk w1 w3 w mb fb n c v lv rv tlv uv cv bv av ev g base P S ED FR){st:Nat}{K:List It}(hK:L[st]?=oM K)(c8:∀x∈K,x.1<=g.R.length/\x.2<=1000000)(hF:FR[st]?=oM (fv,F))(c7:∀f∈F,f.1<=g.R.length/\f.2<P.length)(ds:F.length<=100000)(hP:P.length<=100000)(b7:base.getD st 0+K.length<=P.length) :
  () 135 #[(mb,0),st] w (NC w (g.nt+1) (g.IA S (g.CU K (base.getD st 0)++F))):=by
 have en:=hs.gn.fit.nr;obtain⟨AT,cT,AN,cN,AR,cR,rfl,-,-⟩:=hs.gn.open_;obtain⟨⟨z0,z1,z2,z3⟩,z4,z5,z6,z7,z8,z9,bk,ea,d6⟩:=h.cells;have hA:=hs.Gy.later h.below;obtain⟨⟨AL,cL,rfl,ee,hc⟩,⟨ei,ej⟩,hit,-,ep⟩:=hA;have d2:=(sG.1 hK).1;obtain⟨xv,bh⟩:∃x,V[st]?=oM x:=⟨_,eG nX⟩
 obtain⟨bL,oL,rfl,ec,c0,c1⟩:=hc st xv bh;obtain⟨⟨Ai,ci,d3,cm⟩,e4,dz⟩:=hit st xv K bh hK;rw[d3]at c0;obtain⟨o,b6⟩:∃x,base[st]?=oM x:=⟨_,eG (by rw[ar.1];exact d2)⟩
 have b8:base.getD st 0=o:=by rw[dG,b6];rfl
 rw[b8]at b7;obtain⟨⟨AB,cB,dv,cj⟩,_,_⟩:BF w bv base:=Hi h.FX (by rw[ar.1];omega);obtain⟨bb,ob,dq,cb,ck⟩:=cj st o b6;subst dv;subst dq;rw[b8];obtain⟨br,d4,cr,_,_,e0,_,_,_⟩:=hs.Ha.L3 (k:=0) nX;subst e0;have dm:Hid (∀y,Below w w y->∀k,k<=g.R.length->∃Ad c2,oT y (br,d4+k)=oM (oG Ad (g.right k).length c2)/\br<y.heap.size):=Hd (fun y J k hk=>by
  obtain⟨b',o',c',Ad,c2,e,⟨du,cd⟩,dw,_⟩:=hs.Ha.L3 (k:=k) nX;cases e
  have cl:=h.AA.next (Am.AJ J);exact⟨Ad,c2,(cl.cell cd du.no _).trans dw,A0 cd cl.size⟩)
 obtain⟨Aa,ca,dt⟩:=CG h.all;subst dt;have eo:st<n:=by have h1:=(sG.1 hF).1;have h2:=h.fin.len;omega
 obtain⟨Af,cf,cn⟩:=CG (h.fin.own st _ hF);simp only at cn;subst cn;have zf:oT w (fb,st)=oM (oG Af F.length cf):=by rw[Bh h.fin.row st nX,pG,hF];rfl
 have c6:=(B6 h.fin.row fb rfl).1;have ay:=h.Aj.lt;have dh:Hid (CQ w (oG Af F.length cf) F):=Hd (CQ.own (h.fin.own st _ hF) nX);have HM:=Hd h;obtain⟨lk,a4⟩:∃k,K.length=k:=⟨_,rfl⟩
 obtain⟨lf,b9⟩:∃k,F.length=k:=⟨_,rfl⟩
 obtain⟨np,bd⟩:∃k,P.length=k:=⟨_,rfl⟩
 obtain⟨nb,bc⟩:∃k,base.length=k:=⟨_,rfl⟩
 obtain⟨nV,cw⟩:∃k,V.length=k:=⟨_,rfl⟩
 have al:=Hd a4;have bp:=Hd b9;have ag:=Hd bd;have er:st<nb:=by rw[<-bc,ar.1];exact d2
 rw[a4]at c0 b7;rw[b9]at zf ds;rw[bd]at hP b7 bk;rw[bc]at z9;rw[cw]at z4;have HZ:Hid (∀y,Below w w y->oT y (mb,9)=oM (oG (bb,ob) nb cB)/\oT y (bb,ob+st)=oM (oH oO (o:Nat))/\oT y (mb,5)=oM (oG (br,d4) (g.R.length+1) cr)/\oT y (mb,12)=oM (oG (fb,0) n c)/\oT y (fb,st)=oM (oG Af lf cf)/\oT y (mb,10)=oM (oG Aa np ca)/\mb<y.heap.size/\bb<y.heap.size/\fb<y.heap.size):=Hd (fun y J=>by have ew:=J.size;exact⟨(J.cell (p:=⟨mb,9,oN⟩) ay).trans z9,(J.cell (p:=⟨bb,ob+st,oN⟩) cb).trans ck,(J.cell (p:=⟨mb,5,oN⟩) ay).trans z5,(J.cell (p:=⟨mb,12,oN⟩) ay).trans d6,(J.cell (p:=⟨fb,st,oN⟩) c6).trans zf,(J.cell (p:=⟨mb,10,oN⟩) ay).trans bk,nX,nX,nX⟩)
 have d8:Hid (∀y,Below w w y->∀k x,K[k]?=oM x->∃b off,Ai=oM ⟨b,off,oN⟩/\b<y.heap.size/\oT y ⟨b,off+k*2,oN⟩=oM (oH oO x.1)/\oT y ⟨b,off+k*2+1,oN⟩=oM (oH oO x.2)):=Hd (fun y J k x hx=>by obtain⟨b,off,hA,a5,e1,e2⟩:=cm k x hx;exact⟨b,off,hA,A0 a5 J.size,(J.cell (p:=⟨b,off+k*2,oN⟩) a5).trans e1,(J.cell (p:=⟨b,off+k*2+1,oN⟩) a5).trans e2⟩)
 have dc:=Hd c8;have bn:=Hd c7;have et:(st:Int)<(nV:Int):=by omega
 have es:(st:Int)<(nb:Int):=by omega
 have eu:(st:Int)<(n:Int):=by omega
 have ek:∀y:oU,(Instr.makeMap 277 oN).run Tryz.prog y=.ok (.map (oM y.heap.size)) (y.alloc (.map #[] 0)):=fun y=>by kernel_rfl
 have bq:Hid (Below w w (w.alloc (.map #[] 0))/\Gv (w.alloc (.map #[] 0)) w.heap.size 0 (.map [])):=Hd ⟨(Below.refl _ w).alloc (Ay _) _,World.ownsMap_made (H:=Unit) w Tryz.prog 3 (plainElem Tryz.prog 3)⟩;clear hs ar h hK c8 hF c7 cm hit hc bh ck b6 b8 dz d3 e4 cj z0 z1 z2 z3 z5 z6 z7 z8 z9 ea a4 b9 bd bc cw cb c1 bk d6 zf c6;unfold NC;go_enter func135,ntmps135
 go_wp2_with fail
 generalize cu:w.heap.size=t at *;have a3:=Hd cu;generalize w.alloc (.map #[] 0)=W0 at *;clear cu;go_loopw [24] (fun ii wr=>∃(i nD:Nat) (D:DataW Unit),i<=lk/\ii=oH oO i/\nD<=i/\Hid (Below t w wr)/\Hid (Gv wr t nD D)/\Hid (Ec D (Fw (g.CU (K.take i) o)))) (fun ii _=>lk-(intOf ii).toNat)
 case atStart=>exact⟨0,0,_,AX _,rfl,Ay _,Hd bq.1,Hd bq.2,Hd (Ec.start.congr fun s=>rfl)⟩
 case round=>
  obtain⟨i,nD,D,hi,rfl,el,HB,HI,HD⟩:=hrel;rename oU=>I
  obtain⟨k9,kb,k5,ab,kf,aa,lm,lb,ad⟩:=HZ I HB;by_cases a5:i<lk
  ·obtain⟨⟨j,l⟩,hx⟩:∃x,K[i]?=oM x:=⟨_,eG (by rw[al.out];exact a5)⟩
   obtain⟨bi,oi,rfl,cc,d0,d1⟩:=d8 I HB i _ hx;obtain⟨au,aw⟩:=dc _ (mG hx);simp only at d0 d1 au aw;obtain⟨Ar,eb,kr,lr⟩:=dm I HB j au;obtain⟨rl,bf⟩:∃k,(g.right j).length=k:=⟨_,rfl⟩
   rw[bf]at kr;have ah:=Hd (Ah.new I 220 #[j,l]);have bm:Hid (Below t w (I.alloc (oP #[j,l] 220))):=Hd (HB.alloc (by have:=HB.size;rw[a3.out]at this;exact this) _);have bo:Hid (Gv (I.alloc (oP #[j,l] 220)) t nD D):=Hd (HI.alloc _);have bu:Hid (g.CU (K.take (i+1)) o=g.CU (K.take i) o++(if l=rl then[(j,o+i)] else[])):=Hd (by
    have e:K.take (i+1)=K.take i++[(j,l)]:=by rw[List.take_add_one,hx];rfl
    rw[e,Vy,List.length_take];simp only;rw[bf,show min i K.length=i by rw[al.out];omega])
   have e6:(j:Int)<((g.R.length+1:Nat):Int):=by omega
   have e7:(j:Int)<(g.R.length:Int)+1:=by omega
   clear hx bf;go_upto_region 5 with fail
   have x0:(I.alloc (oP #[j,l] 220)).cell? (I,0)=oM (oH oO j):=Ah.cell ah 0;have x1:(I.alloc (oP #[j,l] 220)).cell? (I,1)=oM (oH oO l):=Ah.cell ah 1;have xl:=ah.lt;go_quiet (fail)
   have bw:Hid (Ah ((I.alloc (oP #[j,l] 220)).drewN nq) I.heap.size 220 #[j,l]):=Hd (ah.drewN nq);have b0:Hid (Below t w ((I.alloc (oP #[j,l] 220)).drewN nq)):=Hd (bm.trans ⟨rfl,rfl,rfl,Ay _,fun _ _=>rfl⟩);have b4:Hid (Gv ((I.alloc (oP #[j,l] 220)).drewN nq) t nD D):=Hd bo;generalize (I.alloc (oP #[j,l] 220)).drewN nq=w5 at *;generalize I.heap.size=bx at *;clear x0 x1 xl k9 kb k5 ab kf aa kr lr e6 e7 d0 d1 cc HI bo bm ah lm lb ad
   by_cases aj:l=rl
   ·have dy:((l:Int)==(rl:Int))=true:=by rw[aj];simp
    obtain⟨k9,kb,k5,ab,kf,aa,lm,lb,ad⟩:=HZ w5 b0;have x0:oT w5 (bx,0)=oM (oH oO j):=Ah.cell bw 0;have xl:=bw.lt;obtain⟨w6,cz,cs,cp⟩:=NF (w:=w5.drew) b4 nX (s:=j) (c:=o+i) nX nX;have cg:Am (·=t) w5.drew w6:=Am.of_map cp;have e5:IntKind.i64.wrap ((o:Int)+(i:Int))=((o+i:Nat):Int):=by rw[IntKind.wrap_i64];omega
    have af:Hid (Ec (D.put (Cq j) (.lit (.int oO ((o+i:Nat):Int)))) (Fw (g.CU (K.take (i+1)) o))):=Hd (by
     refine(HD.next b4.isMap j (o+i)).congr fun s=>?_
     rw[bu.out,if_pos aj];exact RX _ _ _ _)
    have d7:Hid (Below t w w6):=Hd (by have hd:Below t w w5.drew:=b0.drew;exact hd.trans (cg.below (by have:=hd.size;have:=a3.out;omega) (fun k hk e=>by have e2:k=t:=e;omega)))
    have df:=Hd cs;rw[Int.natCast_add]at cz e5;clear cs cp cg aj;go_upto_region 6 with fail
    refine DY 12 (fun(v:oU)=>oT v (bx,0)=oM (oH oO j)/\oT v (mb,9)=oM (oG (bb,ob) nb cB)/\oT v (bb,ob+st)=oM (oH oO o)) nZ ?_;have R:(fun(v:oU)=>oT v (bx,0)=oM (oH oO j)/\oT v (mb,9)=oM (oG (bb,ob) nb cB)/\oT v (bb,ob+st)=oM (oH oO o)) w5.drew:=⟨x0,k9,kb⟩
    refine AF 0 R ?_;simp only[AD,AE];refine AF 1 R ?_;simp only[AD,AE];refine AF 2 R ?_;simp only[AD,AE];refine AF 3 R ?_;simp only[AD,AE];refine AF 4 R ?_;simp only[AD,AE];refine AF 5 R ?_;simp only[AD,AE];refine AF 6 R ?_;simp only[AD,AE];refine AF 7 R ?_;simp only[AD,AE];refine AF 8 R ?_;simp only[AD,AE];refine AF 9 R ?_;simp only[AD,AE];refine AF 10 R ?_;simp only[AD,AE];refine AF 11 R ?_;simp only[AD,AE];clear R;refine Bm 12 nZ rfl rfl (fun K hK=>?_)
    go_simp;refine hK _ _ (fun h=>absurd rfl h) ?_;clear hK K;refine D0 nZ ?_ _;go_wp2_with fail
    go_roundw
    case rel=>exact⟨i+1,nD+1,_,nX,oD,nX,d7,df,af⟩
    case measure=>simp[intOf];omega
   ·have dy:((l:Int)==(rl:Int))=false:=by rw[bN];omega
    have af:Hid (Ec D (Fw (g.CU (K.take (i+1)) o))):=Hd (by have h:=HD.out;rw[bu.out,if_neg aj,List.append_nil];exact h)
    clear aj;go_wp2_with fail
    go_roundw
    case rel=>exact⟨i+1,nD,D,nX,oD,nX,b0,b4,af⟩
    case measure=>simp[intOf];omega
  ·obtain rfl:i=lk:=by omega
   have d9:Hid (Ec D (Fw (g.CU K o++F.take 0))):=Hd (by have h:=HD.out;rw[Da (by rw[al.out];exact Ay _)]at h;rw[List.take_zero,List.append_nil];exact h)
   clear HD;go_wp2_with fail
   clear k9 kb k5 ab kf aa lm lb ad;go_loopw [62] (fun ii wr=>∃(U nD:Nat) (D:DataW Unit),U<=lf/\ii=oH oO U/\nD<=i+U/\Hid (Below t w wr)/\Hid (Gv wr t nD D)/\Hid (Ec D (Fw (g.CU K o++F.take U)))) (fun ii _=>lf-(intOf ii).toNat)
   case atStart=>exact⟨0,nD,D,AX _,rfl,nX,HB,HI,d9⟩
   case round=>
    obtain⟨U,bj,D2,ef,rfl,em,ae,b2,b1⟩:=hrel;rename oU=>w8
    obtain⟨k9,kb,k5,ab,kf,aa,lm,lb,ad⟩:=HZ w8 ae;by_cases a5:U<lf
    ·obtain⟨⟨j,l⟩,hx⟩:∃x,F[U]?=oM x:=⟨_,eG (by rw[bp.out];exact a5)⟩
     obtain⟨au,aw⟩:=bn _ (mG hx);obtain⟨⟨A',c',e,hc⟩,-,-⟩:=dh.later (by rw[a3.out];exact ae);have e2:Af=A':=by cases e;rfl
     subst e2;obtain⟨bi,oi,rfl,cc,d0,d1⟩:=hc U _ hx;simp only at d0 d1 au aw;rw[ag.out]at aw;have a8:Hid (Below t w (w8.alloc (oP #[j,l] 280))):=Hd (ae.alloc (by have:=ae.size;rw[a3.out]at this;exact this) _);obtain⟨w9,cz,ct,cq⟩:=NF (w:=w8.alloc (oP #[j,l] 280)) (b2.alloc _) nX (s:=j) (c:=l) nX nX;have ch:Am (·=t) (w8.alloc (oP #[j,l] 280)) w9:=Am.of_map cq;have af:Hid (Ec (D2.put (Cq j) (.lit (.int oO (l:Int)))) (Fw (g.CU K o++F.take (U+1)))):=Hd (by
      refine(b1.next b2.isMap j l).congr fun s=>?_
      have e3:F.take (U+1)=F.take U++[(j,l)]:=by rw[List.take_add_one,hx];rfl
      rw[e3,<-List.append_assoc];exact RX _ _ _ _)
     have a7:Hid (Below t w w9):=Hd (a8.trans (ch.below (by have:=a8.size;have:=a3.out;omega) (fun k hk e=>by have e2:k=t:=e;omega)));have dg:=Hd ct;clear hx hc e ct cq ch;go_wp2_with fail
     go_roundw
     case rel=>exact⟨U+1,bj+1,_,nX,oD,nX,a7,dg,af⟩
     case measure=>simp[intOf];omega
    ·obtain rfl:U=lf:=by omega
     obtain⟨ps,aq⟩:∃e9,g.CU K o++F=e9:=⟨_,rfl⟩
     have da:Hid (Ec D2 (Fw ps)):=Hd (by have h:=b1.out;rw[Da (by rw[bp.out];exact Ay _),aq]at h;exact h)
     have di:Hid (∀p∈ps,p.2<np):=Hd (fun p hp=>by
      rw[<-aq]at hp;rcases mA.1 hp with h1|h1
      ·have:=O2 K o p h1
       rw[al.out]at this;omega
      ·have:=(bn p h1).2
       rw[ag.out]at this;exact this)
     have dj:=Hd aq;clear aq b1;go_wp2_with fail
     clear k9 kb k5 ab kf aa lm lb ad;have dd:Hid (Gx w w8 (g.nt+1) (oG oN 0 0) []):=Hd ((Gx.start w (g.nt+1)).later (by rw[a3.out];exact ae));go_loopw [10,77] (fun ov kk wr=>∃(k:Nat) (Z:List (oV×(Nat×Nat))),k<=g.R.length+1/\kk=oH oO k/\Hid (Gx w wr (g.nt+1) ov Z)/\Hid (Gv wr t bj D2)/\Hid (Z.map (·.2)=(List.range k).filterMap fun k=>(ps.reverse.find? (fun p=>p.1==k)).map fun p=>(k,S.getD p.2 0))/\Z.length<=k) (fun _ kk _=>g.R.length+1-(intOf kk).toNat)
     case atStart=>exact⟨0,[],AX _,rfl,dd,b2,Hd rfl,Ay _⟩
     case round=>
      obtain⟨k,Z,hk,rfl,HL,b3,b5,e8⟩:=hrel;rename oU=>w9
      have a8:Hid (Below t w w9):=Hd (by have h:=HL.below;rw[a3.out]at h;exact h);obtain⟨k9,kb,k5,ab,kf,aa,lm,lb,ad⟩:=HZ w9 a8;obtain⟨Ao,co,cx⟩:=CG HL.row;obtain⟨zl,ax⟩:∃x,Z.length=x:=⟨_,rfl⟩
      have a9:=Hd ax;rw[ax]at e8 cx;subst cx;by_cases a5:k<g.R.length+1
      ·have a4:=M3 b3 da (s:=k) nX
       have bt:Hid ((List.range (k+1)).filterMap (fun k=>(ps.reverse.find? (fun p=>p.1==k)).map fun p=>(k,S.getD p.2 0))=(List.range k).filterMap (fun k=>(ps.reverse.find? (fun p=>p.1==k)).map fun p=>(k,S.getD p.2 0))++((ps.reverse.find? (fun p=>p.1==k)).map fun p=>(k,S.getD p.2 0)).toList):=Hd (by rw[List.range_succ,List.filterMap_append];congr 1)
       have eh:(k:Int)<(g.R.length:Int)+1:=by omega
       clear ax;cases a0:Fw ps k with
       | none=>
        rw[a0]at a4;simp only[Option.getD_none,Option.isSome_none]at a4;have an:Hid (Z.map (·.2)=(List.range (k+1)).filterMap fun k=>(ps.reverse.find? (fun p=>p.1==k)).map fun p=>(k,S.getD p.2 0)):=Hd (by rw[bt.out,b5.out];unfold Fw at a0;rw[Option.map_eq_none_iff]at a0;rw[a0];simp)
        clear a0;go_wp2_with fail
        go_roundw
        case rel=>exact⟨k+1,Z,nX,oD,HL,b3,an,by rw[a9.out];omega⟩
        case measure=>simp[intOf];omega
       | some a6=>
        rw[a0]at a4;simp only[Option.getD_some,Option.isSome_some]at a4;obtain⟨pm,cy,dx⟩:=Wc a0;have hj:a6<np:=by have:=di pm cy;omega
        have an:Hid ((List.range (k+1)).filterMap (fun k=>(ps.reverse.find? (fun p=>p.1==k)).map fun p=>(k,S.getD p.2 0))=Z.map (·.2)++[(k,S.getD a6 0)]):=Hd (by rw[bt.out,b5.out];unfold Fw at a0;obtain⟨y,J,e⟩:=Option.map_eq_some_iff.1 a0;rw[J,<-e];rfl)
        clear a0 cy dx;obtain⟨pp,ao⟩:∃x,P[a6]?=oM x:=⟨_,eG (by rw[ag.out];exact hj)⟩
        have ai:=HM.later (w2:=w9) (by rw[a3.out];exact a8);have dp:=Hd (ai.AM.at_ a6 pp ao);have dn:=Hd (ai.AM.room pp (mG ao));obtain⟨ba,dr⟩:∃ba,Aa=oM ⟨ba,0,oN⟩:=by
         rcases Bj ai.all with⟨_,h0⟩|⟨b,c',h1,_⟩
         ·rw[ag.out]at h0;omega
         ·cases h1;exact⟨b,rfl⟩
        subst dr;have kp:oT w9 ⟨ba,a6,oN⟩=oM (oI (pp.h,0)):=by rw[Bh ai.all a6 (by rw[ag.out];omega),pG,ao];rfl
        have eg:(a6:Int)<(np:Int):=by omega
        have ak:=Hd (Uw dp);rw[dn.out]at ak;unfold AH.v at ak;obtain⟨C,c9⟩:∃x,S.getD a6 0=x:=⟨_,rfl⟩
        rw[c9]at ak an;have ed:=KZ (g.nt+1) C;have ey:zl<=1000:=by omega
        clear ao ai c9;go_wp2_with (first
         | (
           go_at_call 191;refine ak.mono ?_;rintro e az ⟨ez,rfl,a1,a2,rfl,be,hb10⟩
           rw[lM]at be ⊢;have dk:=Hd be;have a7:=Hd hb10;clear be hb10)
         | (
           at_builtin;refine DC VQ (.tmp 87) (.tmp 98) rfl rfl (base:=w.heap.size) (n:=zl) (m:=1) (N:=zl+1) (xs:=Z.flatMap Iu) (news:=Iu (oG a1 (Bs (g.nt+1) C).length a2,(k,C))) rfl rfl (AU (by have h:=(HL.later a7).row;rw[a9.out]at h;exact h) (AG az (oP #[oH oO k,oG a1 (Bs (g.nt+1) C).length a2] 165))) (Be.Aj (c:=1) (cs:=Iu (oG a1 (Bs (g.nt+1) C).length a2,(k,C))) (Ah.new az 165 _) rfl (fun u hu=>by unfold Iu at hu;simp at hu;rcases hu with rfl|rfl<;>rfl)) rfl oB nX (by have h1:=a8.size;have h2:=a7.size;have h3:=HL.below.size;simp;omega) ?_
           intro bl bz d5 q1 q2 q3;have de:Hid (Gx w d5 (g.nt+1) (oG bl (zl+1) bz) (Z++[(oG a1 (Bs (g.nt+1) C).length a2,(k,C))])):=Hd (by
            have hh:=(HL.later a7).later (AG az (oP #[oH oO k,oG a1 (Bs (g.nt+1) C).length a2] 165));have ht:(az.alloc (oP #[oH oO k,oG a1 (Bs (g.nt+1) C).length a2] 165)).ownsRow w 3 1 (oG a1 (Bs (g.nt+1) C).length a2) (Bs (g.nt+1) C).length ((Bs (g.nt+1) C).map AY):=by have h0:=EN (base':=w.heap.size) (dk.alloc (oP #[oH oO k,oG a1 (Bs (g.nt+1) C).length a2] 165)) HL.below.size;exact h0
            have hm:=hh.more (tv:=oG a1 (Bs (g.nt+1) C).length a2) (k:=k) (S:=C) ht (A:=bl) (c:=bz) (by rw[a9.out];exact q1) q2;rw[a9.out]at hm;exact hm)
           have db:Hid (Gv d5 t bj D2):=Hd (q2.map (((Am.AJ (X:=fun _=>False) a7).map b3 id).alloc _));clear q1 q2 q3))
        go_roundw
        case rel=>exact⟨k+1,_,nX,oD,de,db,Hd (by rw[an.out,BB];rfl),by rw[Cb,a9.out];simp;omega⟩
        case measure=>simp[intOf];omega
      ·obtain rfl:k=g.R.length+1:=by omega
       clear ax;go_wp2_with fail
       go_ret;have hl:g.IA S (g.CU K o++F)=Z.map (·.2):=by rw[dj.out,b5.out];rfl
       rw[hl,lM,a9.out];exact⟨Ao,co,Z,rfl,rfl,HL⟩
end
