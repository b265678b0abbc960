/- A place more. -/
import Derived.Test.YthaacmablcpdfaaGreatDoorXas
set_option linter.all false
set_option maxRecDepth 100000
set_option maxHeartbeats 16000000
namespace Go.Proofs.YthaacmablcpdfaaGreatDoor
open Go.RowKit Go.Proofs.Tryz
variable{F:List It}{i k:Nat}{x:It}{fv:Value}{q:Gz.Cv}{A:Nat->Prop}
section
variable {w1 w3 wr:World} {mb fb n c:Nat} {v lv rv tlv uv cv bv av ev:Value} {g:Gz} {base:List Nat} {P:List AI} {S:List Nat} {ED:List (Option AI×Edge)} {FR:List (Value×List It)}
def OO(w1 w3 wr:World)(mb fb n c:Nat)(v lv rv tlv uv cv bv ev:Value)(g:Gz)(base:List Nat)(P:List AI)(S:List Nat)(ED:List (Option AI×Edge))(FR:List (Value×List It))(e:Ending)(w':World):Prop:=
 e=.returned P.length/\∃i t,Mk w1 w3 w' mb fb n c v lv rv tlv uv cv bv i ev g base (P++[t]) (S++[0]) ED FR/\AJ w1 [192,90] wr w'/\∀(q:Option AI) (T:Nat),Cq wr (g.nt+1) P q T->Cq w' (g.nt+1) (P++[t]) q T
def Qq(a6:GN w1 v g)(h:Mk w1 w3 wr mb fb n c v lv rv tlv uv cv bv av ev g base P S ED FR)(hP:P.length<=1000000):() 112 #[(mb,0)] wr (OO w1 w3 wr mb fb n c v lv rv tlv uv cv bv ev g base P S ED FR):=by
 have ah:=a6.fit.nt;obtain⟨C,R,AN,cN,AR,cR,rfl,-,-⟩:=a6.open_;obtain⟨o,p,ae⟩:∃A c,av=.slice A P.length c:=by
  rcases Bk h.all with⟨e1,e2⟩|⟨b,c,e,_⟩
  ·exact⟨none,0,by rw[e1,e2]⟩
  ·exact⟨_,c,e⟩
 subst ae;have T:=Hd h;have z0:wr.cell? (mb,0)=some (.slice C g.nt R):=Ah.cell h.Ap 0;have a4:wr.cell? (mb,10)=some (.slice o P.length p):=Ah.cell h.Ap 10;have ml:=h.Ap.lt;have ad:=Hd h.AF.size;have aa:Hid (() 84 #[.int .i64 ((g.nt:Int)+1)] wr.drew fun e w'=>e=.returned (wr.heap.size+1,0)/\AU w' ⟨wr.heap.size+1,wr.heap.size,g.nt+1⟩ 0/\Below wr wr w'):=Hd (by refine(LF (w:=wr.drew) (n:=g.nt+1) (by omega) (by omega)).mono ?_;rintro e w' ⟨rfl,h1,h2⟩;exact⟨rfl,h1,((Below.refl _ wr).drew).trans h2⟩)
 obtain⟨l,a3⟩:∃k,P.length=k:=⟨_,rfl⟩
 have J:=Hd a3;rw[a3]at a4 hP;have af:IntKind.i64.wrap ((g.nt:Int)+1)=(g.nt:Int)+1:=by rw[IntKind.wrap_i64];omega
 have a5:Hid (∀Y,Below wr wr Y->Y.cell? (mb,10)=some (.slice o l p)/\Y.cell? (mb,0)=some (.slice C g.nt R)):=Hd (fun Y hy=>⟨(hy.cell (p:=⟨mb,10,none⟩) ml).trans a4,(hy.cell (p:=⟨mb,0,none⟩) ml).trans z0⟩);clear h a3;unfold OO;go_enter func112,ntmps112
 go_upto_region 1 with fail
 refine Eb 17 (fun(v:World)=>v.cell? (mb,10)=some (.slice o l p)/\v.cell? (mb,0)=some (.slice C g.nt R)) (by kernel_rfl) ?_;have j:(fun(v:World)=>v.cell? (mb,10)=some (.slice o l p)/\v.cell? (mb,0)=some (.slice C g.nt R)) wr.drew:=⟨a4,z0⟩
 refine AE 0 j ?_;simp only[AD,AA];refine AE 1 j ?_;simp only[AD,AA];refine AE 2 j ?_;simp only[AD,AA];refine AE 3 j ?_;simp only[AD,AA];refine AE 4 j ?_;simp only[AD,AA];refine AE 5 j ?_;simp only[AD,AA];refine AE 6 j ?_;simp only[AD,AA];refine AE 7 j ?_;simp only[AD,AA];refine AE 8 j ?_;simp only[AD,AA];refine AE 9 j ?_;simp only[AD,AA];refine AE 10 j ?_;simp only[AD,AA];refine AE 11 j ?_;simp only[AD,AA];refine Bj 12 (by kernel_rfl) rfl rfl (fun K i=>?_);go_simp
 refine aa.out.mono ?_;rintro e t ⟨rfl,a7,a0⟩;have ab:=Hd a7;have a8:=Hd a0;have I:Hid (Below wr wr (t.alloc (.cells #[(wr.heap.size+1,0)] 90))):=Hd (a0.alloc a0.size _);clear a7 a0;refine i.out _ _ (fun _=>a5.out t a8.out) ?_;clear i K j;refine Bj 13 (by kernel_rfl) rfl rfl (fun K i=>?_);go_simp;refine i.out _ _ (fun _=>a5.out _ I.out) ?_;clear i K;refine GH 14 (by kernel_rfl) rfl rfl rfl (fun K i=>?_);refine Ep RN (.tmp 7) (.tmp 16) rfl (base:=w3.heap.size) (n:=l) (m:=1) (N:=l+1) (v:=.slice o l p) (src:=.slice (t,0) 1 1) (xs:=P.map AI.v) (news:=[.pointer (some ⟨wr.heap.size+1,0,none⟩)]) rfl rfl (AV (by have h:=T.out.all;rw[J.out]at h;exact h) I.out) (Bf.Ap (c:=1) (cs:=[.pointer (some ⟨wr.heap.size+1,0,none⟩)]) (Ah.new t 90 _) rfl (by simp[Value.oneCell'])) rfl (by unfold maxLen;omega) (by omega) (by have:=ad.out;have:=I.out.size;omega) ?_
 intro A4 c4 w4 q1 q2 q3;have U:Hid (Ah w4 mb 192 _):=Hd (q2.Ap (T.out.Ap.below I.out T.out.Ap.lt) (.inr (by decide)));have y0:w4.cell? (mb,0)=some (.slice C g.nt R):=Ah.cell U.out 0;have a1:w4.cell? (mb,10)=some (.slice o P.length p):=Ah.cell U.out 10;rw[J.out]at a1;have yf:=Ah.frozen U.out 10;have yl:=U.out.lt;have a2:=Hd (T.out.jR (W:=t.alloc (.cells #[(wr.heap.size+1,0)] 90)) I.out (t:=⟨wr.heap.size+1,wr.heap.size,g.nt+1⟩) (ab.out.later (AH t _)) rfl ⟨by simp,AG _⟩ (A:=A4) (c2:=c4) (by rw[J.out];exact q1) q2)
 rw[J.out]at a2;clear q1 q2 q3;refine i.out _ _ (fun _=>⟨a1,y0⟩) ?_;clear i K;simp only[List.set_cons_succ,List.set_cons_zero];refine Bj 15 (by kernel_rfl) rfl rfl (fun K i=>?_);go_simp;refine i.out _ _ (fun _=>⟨a1,y0⟩) ?_;clear i K;refine Bj 16 (by kernel_rfl) rfl rfl (fun K i=>?_);go_simp;refine i.out _ _ (fun _=>⟨a1,y0⟩) ?_;clear i K;refine Bj 17 (by kernel_rfl) rfl rfl (fun K i=>?_);go_simp;refine i.out _ _ (fun h=>absurd rfl h) ?_;clear i K;refine DU (by kernel_rfl) ?_ _;have a9:=Hd a2.out.1;have ai:(w4.setCell (mb,10) (.slice A4 (l+1) c4)).cell? (mb,10)=some (.slice A4 (l+1) c4):=Ah.cell a9.out.Ap 10
 have ag:IntKind.i64.wrap ((l:Int)+1-1)=(l:Int):=by rw[IntKind.wrap_i64];omega
 go_wp2_with fail
 go_ret;exact⟨FW J.out.symm,_,_,a2.out⟩
def Vc(I:F[i]?=some x)(C:x.1=k)(p:∀j,j<i->∀y,F[j]?=some y->y.1≠k):F.find? (fun f=>f.1==k)=some x:=by rw[List.find?_eq_some_iff_getElem];obtain⟨l,o⟩:=sG.1 I;refine⟨by simp[C],i,l,o,fun j t=>?_⟩;have:=p j t _ (eG (by omega));simp[this]
def WO(l:∀j,j<F.length->∀y,F[j]?=some y->y.1≠k):F.find? (fun f=>f.1==k)=none:=by rw[List.find?_eq_none];intro y o;obtain⟨j,i,e⟩:=List.mem_iff_getElem.1 o;have:=l j i y (by rw[eG i,e]);simp[this]
def Ub{j:Type}(l:List j)(i:Nat)(x:j)(h:l[i]?=some x):l.set i x=l:=by obtain⟨o,p⟩:=sG.1 h;rw[<-p];exact List.set_getElem_self o
def Mo(w1 w3 wr:World)(mb fb n c:Nat)(v lv rv tlv uv cv bv ev:Value)(g:Gz)(base:List Nat)(P:List AI)(S:List Nat)(ED:List (Option AI×Edge))(FR:List (Value×List It))(s:Nat)(r:Nat×Nat×List It)(e:Ending)(w':World):Prop:=
 e=.returned r.1/\∃l i j,Mk w1 w3 w' mb fb n c v lv rv tlv uv cv bv l ev g base i (S++List.replicate (i.length-P.length) 0) ED j/\i.length=r.2.1/\j.map (·.2)=(FR.map (·.2)).set s r.2.2/\AJ w1 [192,90,246,248] wr w'/\∀(q:Option AI) (T:Nat),Cq wr (g.nt+1) P q T->Cq w' (g.nt+1) i q T
def kD(ad:GN w1 v g)(h:Mk w1 w3 wr mb fb n c v lv rv tlv uv cv bv av ev g base P S ED FR)(hP:P.length<=100000){s:Nat}(l:FR[s]?=some (fv,F))(hF:F.length<=100000):Calls Tryz.prog 158 #[.pointer (some ⟨mb,0,none⟩),.int .i64 s,.int .i64 k] wr (Mo w1 w3 wr mb fb n c v lv rv tlv uv cv bv ev g base P S ED FR s (Gz.Dk P.length F k)):=by
 have hs:s<n:=by have h1:=(sG.1 l).1;have h2:=h.fin.len;omega
 obtain⟨p,I,b6⟩:∃A c,fv=.slice A F.length c:=by
  rcases Bk (h.fin.own s _ l) with⟨e1,e2⟩|⟨b,c,e,_⟩
  ·have b0:fv=.slice none 0 0:=e1
   have b1:F.length=0:=e2;exact⟨none,0,by rw[b0,b1]⟩
  ·exact⟨_,c,e⟩
 subst b6;have HM:=Hd h;have HY:=Hd l;have a9:Hid (CX wr (.slice p F.length I) F):=Hd (CX.own (h.fin.own s _ l) (by omega));have ag:wr.cell? ⟨mb,12,none⟩=some (.slice (some ⟨fb,0,none⟩) n c):=by obtain⟨x0,x1,x2,x3,rfl⟩:=h.vf;exact Ah.cell h.Ap 12
 have zf:wr.cell? ⟨fb,s,none⟩=some (.slice p F.length I):=by rw[Bg h.fin.row s (by omega),pG,l];rfl
 have ml:=h.Ap.lt;have fl:=(BQ h.fin.row fb rfl).1;have be:(s:Int)<(n:Int):=by omega
 have ao:=Hd ad;have an:Hid (P.length<=100000):=Hd hP;obtain⟨lf,a3⟩:∃ba,F.length=ba:=⟨_,rfl⟩
 have R:=Hd a3;have HZ:Hid (∀Y,Below wr.heap.size wr Y->Y.cell? ⟨mb,12,none⟩=some (.slice (some ⟨fb,0,none⟩) n c)/\Y.cell? ⟨fb,s,none⟩=some (.slice p lf I)):=Hd (fun Y l=>⟨(l.cell (p:=⟨mb,12,none⟩) ml).trans ag,by rw[<-a3];exact(l.cell (p:=⟨fb,s,none⟩) fl).trans zf⟩);rw[a3]at zf a9 hF;clear h ad l hP a3 hs;go_enter func158,ntmps158
 go_wp2_with fail
 go_loopw [18] (fun ii w'=>∃i:Nat,i<=lf/\ii=.int .i64 i/\Hid (Below wr.heap.size wr w')/\Hid (∀a0,a0<i->∀y,F[a0]?=some y->y.1≠k)) (fun ii _=>lf-(intOf ii).toNat)
 case atStart=>exact⟨0,AZ _,rfl,Hd (Below.refl _ _),Hd (fun a0 hj=>by omega)⟩
 case round=>
  obtain⟨i,hi,rfl,t,HN⟩:=hrel;rename World=>w8
  by_cases b8:i<lf
  ·obtain⟨⟨xa,xb⟩,hx⟩:∃x,F[i]?=some x:=⟨_,eG (by rw[R.out];exact b8)⟩
   obtain⟨⟨A',c',e,hc⟩,-,-⟩:=a9.later t;have e2:p=A':=by cases e;rfl
   subst e2;obtain⟨b,off,rfl,hb,d0,d1⟩:=hc i _ hx;simp only at d0 d1;have HX:=Hd hx;clear hc e hx;by_cases hk:xa=k
   ·have b9:((xa:Int)==(k:Int))=true:=by rw[hk];simp
    have HK:=Hd hk;clear hk;go_wp2_with fail
    go_ret;have b5:=Vc HX (by exact HK) HN;have hM:=HM.later (t.trans ((AH w8 (.cells #[.int .i64 xa,.int .i64 xb] 248)).mono t.size));unfold Mo Gz.Dk;rw[b5];refine⟨rfl,av,P,FR,?_,rfl,?_,AJ.AK (t.trans ((AH w8 _).mono t.size)),fun q aa hq=>hq.later (t.trans ((AH w8 _).mono t.size))⟩
    ·rw[Nat.sub_self,List.replicate_zero,List.append_nil]
     exact hM
    ·exact(Ub _ s F (by rw[pG,HY.out];rfl)).symm
   ·have b9:((xa:Int)==(k:Int))=false:=by rw[bN];omega
    have HK:=Hd hk;clear hk;go_wp2_with fail
    go_roundw
    case rel=>exact⟨i+1,by omega,by go_num,Hd (t.trans ((AH w8 _).mono t.size)),Hd (fun a0 hj y l=>by
     by_cases b7:a0=i
     ·subst b7
      rw[HX.out]at l;cases l
      exact HK
     ·exact HN a0 (by omega) y l)⟩
    case measure=>simp[intOf];omega
  ·obtain rfl:i=lf:=by omega
   have a8:Hid (Gz.Dk P.length F k=(P.length,P.length+1,F++[(k,P.length)])):=Hd (by unfold Gz.Dk;rw[WO (by rw[R.out];exact HN.out)])
   have a4:=Hd (Qq ao (HM.later t) (by have:=an.out;omega));unfold OO at a4;obtain⟨J,a7⟩:∃k,P.length=k:=⟨_,rfl⟩
   have a2:=Hd a7;rw[a7]at a4;clear a7;go_upto_region 8 with(
       go_at_call 112;refine a4.mono ?_;rintro e C ⟨rfl,az,a1,af,ae,ab⟩
       have o:=Hd af;have ar:=Hd ae;have al:=Hd ab;clear af ae ab)
   have ai:C.cell? ⟨mb,12,none⟩=some (.slice (some ⟨fb,0,none⟩) n c):=by obtain⟨x0,x1,x2,x3,rfl⟩:=o.vf;exact Ah.cell o.Ap 12
   have aj:C.cell? ⟨fb,s,none⟩=some (.slice p i I):=by rw[Bg o.fin.row s (by omega),pG,HY.out,<-R.out];rfl
   have bb:=o.Ap.lt;have b2:=(BQ o.fin.row fb rfl).1;have aw:Hid (C.ownsRow w3.heap.size 248 2 (.slice p i I) i (F.flatMap Bc)):=Hd (by have h:=o.fin.own s _ HY;simp only at h;rw[R.out]at h;exact h);have ax:Hid (∀Y,Below C.heap.size C Y->Y.cell? ⟨mb,12,none⟩=some (.slice (some ⟨fb,0,none⟩) n c)/\Y.cell? ⟨fb,s,none⟩=some (.slice p i I)):=Hd (fun Y l=>⟨(l.cell (p:=⟨mb,12,none⟩) bb).trans ai,(l.cell (p:=⟨fb,s,none⟩) b2).trans aj⟩);have ay:=Hd o.AF.size;have bf:s<n:=by omega
   clear ag zf ml fl;refine Eb 18 (fun(v:World)=>v.cell? ⟨mb,12,none⟩=some (.slice (some ⟨fb,0,none⟩) n c)/\v.cell? ⟨fb,s,none⟩=some (.slice p i I)) (by kernel_rfl) ?_;have j:(fun(v:World)=>v.cell? ⟨mb,12,none⟩=some (.slice (some ⟨fb,0,none⟩) n c)/\v.cell? ⟨fb,s,none⟩=some (.slice p i I)) C.drew:=⟨ai,aj⟩
   refine AE 0 j ?_;simp only[AD,AA];refine AE 1 j ?_;simp only[AD,AA];refine AE 2 j ?_;simp only[AD,AA];refine AE 3 j ?_;simp only[AD,AA];refine AE 4 j ?_;simp only[AD,AA];refine AE 5 j ?_;simp only[AD,AA];refine AE 6 j ?_;simp only[AD,AA];refine AE 7 j ?_;simp only[AD,AA];refine AE 8 j ?_;simp only[AD,AA];refine AE 9 j ?_;simp only[AD,AA];refine AE 10 j ?_;simp only[AD,AA];refine AE 11 j ?_;simp only[AD,AA];refine AE 12 j ?_;simp only[AD,AA];refine AE 13 j ?_;simp only[AD,AA]
   refine AE 14 j ?_;simp only[AD,AA];refine Bj 15 (by kernel_rfl) rfl rfl (fun K T=>?_);go_simp;refine T _ _ (fun _=>?_) ?_
   ·exact ax _ (((Below.refl _ C).alloc (AG _) _).drew)
   clear T K j;refine GH 16 (by kernel_rfl) rfl rfl rfl (fun K T=>?_);refine Ep Vd (.tmp 42) (.tmp 46) rfl (base:=w3.heap.size) (n:=i) (m:=1) (N:=i+1) (v:=.slice p i I) (src:=.slice (some ⟨C.heap.size,0,none⟩) 1 1) (xs:=F.flatMap Bc) (news:=Bc (k,J)) rfl rfl (AV (aw.alloc _) ((Below.refl _ _).drew)) (Bf.Ap (c:=1) (cs:=Bc (k,J)) (Ah.drew (Ah.new C 248 _)) rfl (fun u hu=>by unfold Bc at hu;simp at hu;rcases hu with rfl|rfl<;>rfl)) rfl (by unfold maxLen;omega) (by omega) (by have:=ay.out;simp;omega) ?_;intro A7 c7 w7 q1 q2 q3;have a5:=Hd (o.ended (((Below.refl _ C).alloc (AG _) (.cells #[.int .i64 k,.int .i64 J] 248)).drew) HY (x:=(k,J)) (A:=A7) (c2:=c7) (by simp only[R.out];exact q1) q2 (by simp only[R.out];exact q3))
   simp only[R.out]at a5;have a6:Hid (w7.ownsRow w1.heap.size 246 1 (.slice (some ⟨fb,0,none⟩) n c) n (FR.map (·.1))):=Hd (q2.own (AV (o.fin.row.alloc _) ((Below.refl _ _).drew)) (.inr (by decide)));have ak:w7.cell? ⟨fb,s,none⟩=some (.slice p i I):=by rw[Bg a6.out s (by omega),pG,HY.out,<-R.out];rfl
   have bd:=GD a6 s;have bh:=(BQ a6 fb rfl).1;have au:Hid (Ah w7 mb 192 _):=Hd (q2.Ap (Ah.drew (o.Ap.alloc _)) (.inr (by decide)));have ah:w7.cell? ⟨mb,12,none⟩=some (.slice (some ⟨fb,0,none⟩) n c):=by have h:=au.out;obtain⟨x0,x1,x2,x3,e⟩:=o.vf;rw[e]at h;exact Ah.cell h 12
   have aq:Hid (AJ w1.heap.size [248,246] ((C.alloc (.cells #[.int .i64 k,.int .i64 J] 248)).drew) (w7.setCell ⟨fb,s,none⟩ (.slice A7 (i+1) c7))):=Hd (by obtain⟨bc,b3⟩:=o.fin.Ap;have b4:=q2.Ap (Ah.drew (b3.alloc (.cells #[.int .i64 k,.int .i64 J] 248))) (.inr (by decide));exact(q2.mono o.lo.2.2 (fun a1 U=>by simp at U;simp[U])).trans (((AJ.refl w1.heap.size [248,246] w7).Er b4 o.lo.2.1 (by simp) s _)))
   clear q1 q2 q3;refine T _ _ (fun _=>⟨ah,ak⟩) ?_;clear T K;simp only[List.set_cons_succ,List.set_cons_zero];have j:(fun(v:World)=>v.cell? ⟨mb,12,none⟩=some (.slice (some ⟨fb,0,none⟩) n c)/\v.cell? ⟨fb,s,none⟩=some (.slice p i I)) w7:=⟨ah,ak⟩
   refine AE 17 j ?_;simp only[AD,AA];clear j;refine Bj 18 (by kernel_rfl) rfl rfl (fun K T=>?_);go_simp;refine T _ _ (fun h=>absurd rfl h) ?_;clear T K;refine DU (by kernel_rfl) ?_ _;go_wp2_with fail
   go_ret;unfold Mo;rw[a2.out]at a8;rw[a2.out,a8.out];refine⟨rfl,az,P++[a1],FR.set s (.slice A7 (i+1) c7,F++[(k,J)]),?_,?_,?_,(AJ.AK t).trans ((ar.mono (T':=[192,90,246,248]) (AG _) (fun a1 U=>by simp at U;rcases U with rfl|rfl<;>decide)).trans (a5.2.mono (T':=[192,90,246,248]) (AG _) (fun a1 U=>by simp at U;rcases U with rfl|rfl<;>decide))),fun q aa hq=>?_⟩
   ·have hM:=a5.1
    have e:S++List.replicate ((P++[a1]).length-J) 0=S++[0]:=by rw[BO,a2.out,List.length_singleton,Nat.add_sub_cancel_left];rfl
    rw[e];exact hM
   ·simp[a2.out]
   ·rw[List.map_set]
   ·exact((al q aa (hq.later t)).later (((Below.refl _ C).alloc (AG _) (.cells #[.int .i64 k,.int .i64 J] 248)).drew)).keeps (aq) (by decide) (by decide)
end
structure NM(w1 w3:World)(mb fb:Nat)(v lv rv tlv uv cv:Value)(g:Gz)(V:List (Value×Value))(L E:List (List It))(T:List (List (Nat×Bool)))(CC:List (List AX)):Prop where
 gn:GN w1 v g
 Ge:FG w1 lv V L E
 Hq:Ds (Sx mb fb w3.heap.size) w3 rv (g.R.length+1) g.right
 JY:Ga (Sx mb fb w3.heap.size) w3 (g.nt+1) tlv (g.R.length+1) T
 Qw:Ds (Sx mb fb w3.heap.size) w3 uv (g.top+1) g.CF
 QY:Jh (Sx mb fb w3.heap.size) w3 (g.nt+1) cv (g.top+1) CC
 Mc:∀k,k<=g.R.length->(T.getD k []).length=(g.right k).length
 Zl:∀l∈CC,∀c∈l,c.s<=g.top
 kJ:CC.length=g.top+1
variable{T:List (List (Nat×Bool))}{L:List (List It)}
def Tf(xs:Bool)(i:Nat)(c:AX)(own:Bool)(t:Nat×Bool):(CJ xs i c own t).1.s=c.s:=by
 unfold CJ;split
 ·rfl
 ·split
  ·rfl
  ·split<;>rfl
theorem Xq{g:Gz}(t:g.Fit){xs:Bool}{p:List AX×List Nat}(h:∀c∈p.1,c.s<=g.top):∀c∈(g.FC T i xs p k).1,c.s<=g.top:=by
 unfold Gz.FC;split
 ·exact h
 ·rename_i y r I
  have J:y<=g.top:=t.L1 (k:=k) (by rw[I];simp);split
  ·exact h
  ·split
   ·rename_i j R
    intro c o;rcases List.mem_or_eq_of_mem_set o with l|l
    ·exact h c l
    ·rw[l,Tf]
     rw[dG];cases C:p.1[j]? with
     | none=>exact AZ _
     | some d=>exact h d (mG C)
   ·intro c o
    rcases mA.1 o with l|l
    ·exact h c l
    ·rw[mS.1 l,Tf]
     exact J
theorem TH{g:Gz}(j:g.Fit){T:List (List (Nat×Bool))}{i:Nat}{xs:Bool}:∀(l:List Nat) (p:List AX×List Nat),(∀c∈p.1,c.s<=g.top)->∀c∈(l.foldl (g.FC T i xs) p).1,c.s<=g.top
 | [],p,h=>h
 | k::l,p,h=>TH j l _ (Xq j h)
theorem Uv{g:Gz}(o:g.Fit){T:List (List (Nat×Bool))}:∀(f:Nat) (out:List AX) (l:List Nat) (r:List AX),(∀c∈out,c.s<=g.top)->g.Hc T f out l=some r->∀c∈r,c.s<=g.top
 | 0,out,l,r,_,j=>by simp[Gz.Hc]at j
 | f+1,out,[],r,h,j=>by
  unfold Gz.Hc at j;cases j
  exact h
 | f+1,out,i::l,r,h,j=>by
  unfold Gz.Hc at j;split at j
  ·cases j
  ·exact Uv o f _ _ r (TH o _ _ h) j
theorem Rl{g:Gz}(I:g.Fit){T:List (List (Nat×Bool))}:∀(N:Nat) (j:List (List AX)),N<=g.top+1->g.Di T N=some j->∀l∈j,∀c∈l,c.s<=g.top
 | 0,j,_,h=>by
  unfold Gz.Di at h;cases h
  intro l o;cases o
 | N+1,j,hN,h=>by
  unfold Gz.Di at h;cases C:g.Di T N with
  | none=>rw[C]at h;cases h
  | some U=>
   rw[C]at h;have J:=Rl I N U (by omega) C;simp only at h;intro l o;split at h
   ·cases h
    rcases mA.1 o with i|i
    ·exact J l i
    ·rw[mS.1 i]
     intro c t;cases t
   ·split at h
    ·cases h
    ·rename_i r R
     cases h
     rcases mA.1 o with i|i
     ·exact J l i
     ·rw[mS.1 i]
      exact Uv I _ _ _ r (fun c t=>by rw[mS.1 t];simp only;omega) R
def EC(p q:Gz.Cv):Prop:=p.1<=q.1/\p.2.1.length<=q.2.1.length/\p.2.2.length<=q.2.2.length
def EC.refl(p:Gz.Cv):EC p p:=⟨AG _,AG _,AG _⟩
def EC.trans{p r:Gz.Cv}(h:EC p q)(k:EC q r):EC p r:=⟨AY h.1 k.1,AY h.2.1 k.2.1,AY h.2.2 k.2.2⟩
def OP(n:Nat)(F:List It)(k:Nat):n<=(Gz.Dk n F k).2.1/\F.length<=(Gz.Dk n F k).2.2.length:=by
 unfold Gz.Dk;split
 ·exact⟨AG _,AG _⟩
 ·exact⟨Nat.le_succ _,by simp⟩
theorem Md{g:Gz}{L E:List (List It)}{base:List Nat}{st at_ j:Nat}{self i:Bool}:∀(l:List Nat) (p q:Gz.Cv),g.Fm L E base st at_ j self i l p=some q->EC p q
 | [],p,q,h=>by
  unfold Gz.Fm at h;cases h
  exact EC.refl _
 | k::l,p,q,h=>by
  unfold Gz.Fm at h;split at h
  ·refine EC.trans ?_ (Md l _ q h)
   obtain⟨o,t⟩:=OP p.1 p.2.1 k;refine⟨o,t,?_⟩;show p.2.2.length<=(if i=true then p.2.2 else _).length;split
   ·exact AG _
   ·simp
  ·split at h
   ·cases h
   ·refine EC.trans ?_ (Md l _ q h)
    refine⟨AG _,AG _,?_⟩;show p.2.2.length<=(if i=true then p.2.2 else _).length;split
    ·exact AG _
    ·simp
theorem NH{g:Gz}{L E:List (List It)}{base:List Nat}{st at_:Nat}{t:Nat×Bool}:∀(l:List AX) (p q:Gz.Cv),g.F1 L E base st at_ t l p=some q->EC p q
 | [],p,q,h=>by
  unfold Gz.F1 at h;cases h
  exact EC.refl _
 | c::l,p,q,h=>by
  unfold Gz.F1 at h;split at h
  ·cases h
  ·rename_i j i
   exact(Md _ _ _ i).trans (NH l _ q h)
def Tz{g:Gz}{E:List (List It)}{base:List Nat}{i:List (List AX)}{st at_:Nat}{p:Gz.Cv}(h:g.GG L E base T i st at_ x p=some q):EC p q:=by
 unfold Gz.GG at h;split at h
 ·cases h;exact EC.refl _
 ·split at h
  ·cases h
  ·split at h
   ·refine EC.trans ?_ (NH _ _ _ h)
    exact⟨AG _,AG _,by simp⟩
   ·cases h
    exact⟨AG _,AG _,by simp⟩
theorem Mf{g:Gz}{L E:List (List It)}{base:List Nat}{T:List (List (Nat×Bool))}{i:List (List AX)}{st:Nat}:∀(l:List It) (a:Nat) (p q:Gz.Cv),g.EI L E base T i st l a p=some q->EC p q
 | [],a,p,q,h=>by
  unfold Gz.EI at h;cases h
  exact EC.refl _
 | x::l,a,p,q,h=>by
  unfold Gz.EI at h;split at h
  ·cases h
  ·rename_i o j
   exact(Tz j).trans (Mf l _ _ q h)
def Small(L:List (List It))(base:List Nat):Prop:=base.length=L.length/\(∀b∈base,b<=100000)/\∀l∈L,l.length<=100000
theorem cU{base:List Nat}(J:Small L base){r:Nat}(h:Gz.Jy L base i x=some r):r<=1000000:=by
 have l:=WZ h;unfold Gz.Jy at h;obtain⟨j,C,rfl⟩:=Option.map_eq_some_iff.1 h;obtain⟨R,o,t⟩:=J;have T:base.getD i 0<=100000:=by
  rw[dG];cases I:base[i]? with
  | none=>exact AZ _
  | some b=>exact o b (mG I)
 have U:(L.getD i []).length<=100000:=by rw[dG,eG l];exact t _ (List.getElem_mem l)
 have:=(sG.1 (TR C).1).1;omega
def N1{g:Gz}{E:List (List It)}{base:List Nat}(j:Small L base){r:Nat}(h:g.Hm L E base i x=some r):r<=1000000:=by
 unfold Gz.Hm at h;split at h
 ·cases h
 ·exact cU j h
def TT:List TypeId:=[192,90,246,248,240]
structure Db(w1 w3 w0 wr:World)(mb fb n c:Nat)(v lv rv tlv uv cv bv av ev:Value)(g:Gz)(base:List Nat)(P:List AI)(S:List Nat)(ED:List (Option AI×Edge))(FR:List (Value×List It))(FR0:List (List It))(st n0:Nat)(p:Gz.Cv):Prop where
 Bz:Mk w1 w3 wr mb fb n c v lv rv tlv uv cv bv av ev g base P (S++List.replicate (P.length-n0) 0) ED FR
 len:P.length=p.1
 row:∃fv,FR[st]?=some (fv,p.2.1)
 rows:FR.map (·.2)=FR0.set st p.2.1
 JL:ED.map (·.2)=p.2.2
 keeps:AJ w1 TT w0 wr
 ge:n0<=p.1
variable{v:Value}{n:Nat}
section
variable {w1 w3 w0 wr w2 W W2:World} {mb fb n c:Nat} {v lv rv tlv uv cv bv av ev:Value} {g:Gz} {base:List Nat} {P:List AI} {S:List Nat} {ED:List (Option AI×Edge)} {FR:List (Value×List It)} {FR0:List (List It)} {st n0:Nat} {p:Gz.Cv}
def Db.later(h:Db w1 w3 w0 wr mb fb n c v lv rv tlv uv cv bv av ev g base P S ED FR FR0 st n0 p)(i:Below wr wr w2):Db w1 w3 w0 w2 mb fb n c v lv rv tlv uv cv bv av ev g base P S ED FR FR0 st n0 p:=
 ⟨h.Bz.later i,h.len,h.row,h.rows,h.JL,h.keeps.trans (AJ.AK i),h.ge⟩
def Db.Lb(h:Db w1 w3 w0 wr mb fb n c v lv rv tlv uv cv bv av ev g base P S ED FR FR0 st n0 p)(o:Below wr wr W){x:Option AI×Edge}(C:Cq wr (g.nt+1) P x.1 x.2.set){A:Option Addr}{c2:Nat}(I:W2.ownsRow w3 240 4 (.slice A (ED.length+1) c2) (ED.length+1) (ED.flatMap DH++DH x))(J:AJ w3 [240] W W2) :
  Db w1 w3 w0 (W2.setCell (mb,11) (.slice A (ED.length+1) c2)) mb fb n c v lv rv tlv uv cv bv av (.slice A (ED.length+1) c2) g base P S (ED++[x]) FR FR0 st n0 (p.1,p.2.1,p.2.2++[x.2])/\AJ w1 [192,240] wr (W2.setCell (mb,11) (.slice A (ED.length+1) c2)):=by
 obtain⟨l,i⟩:=h.Bz.Lb o C I J;refine⟨⟨l,h.len,h.row,h.rows,by rw[Bw,h.JL];rfl,h.keeps.trans (i.mono (AG _) (fun t j=>by simp at j;rcases j with rfl|rfl<;>decide)),h.ge⟩,i⟩
def Db.ended(h:Db w1 w3 w0 wr mb fb n c v lv rv tlv uv cv bv av ev g base P S ED FR FR0 st n0 p)(a0:st<FR0.length){e:Ending}(he:Mo w1 w3 wr mb fb n c v lv rv tlv uv cv bv ev g base P (S++List.replicate (P.length-n0) 0) ED FR st (Gz.Dk p.1 p.2.1 k) e w2) :
  e=.returned (.int .i64 (Gz.Dk p.1 p.2.1 k).1)/\∃l i j,Db w1 w3 w0 w2 mb fb n c v lv rv tlv uv cv bv l ev g base i S ED j FR0 st n0 ((Gz.Dk p.1 p.2.1 k).2.1,(Gz.Dk p.1 p.2.1 k).2.2,p.2.2)/\AJ w1 [192,90,246,248] wr w2/\∀(q:Option AI) (T:Nat),Cq wr (g.nt+1) P q T->Cq w2 (g.nt+1) i q T:=by
 obtain⟨J,l,i,j,R,U,o,t,h6⟩:=he;obtain⟨g1,g2⟩:=OP p.1 p.2.1 k;have a2:=h.ge;have a3:=h.len;refine⟨J,l,i,j,⟨?_,U,?_,?_,h.JL,h.keeps.trans (t.mono (AG _) (fun a4 I=>by simp at I;rcases I with rfl|rfl|rfl|rfl<;>decide)),by simp only;omega⟩,t,h6⟩
 ·have e:S++List.replicate (P.length-n0) 0++List.replicate (i.length-P.length) 0=S++List.replicate (i.length-n0) 0:=by
   rw[List.append_assoc,List.replicate_append_replicate];congr 2;omega
  rw[<-e];exact R
 ·have C:(j.map (·.2))[st]?=some (Gz.Dk p.1 p.2.1 k).2.2:=by
   rw[o,tG];rw[h.rows,List.length_set];exact a0
  rw[pG]at C;obtain⟨y,hy,a1⟩:=Option.map_eq_some_iff.1 C;exact⟨y.1,by rw[hy,<-a1]⟩
 ·rw[o,h.rows,List.set_set]
end
section
variable {w1 w3 w0 wr:World} {mb fb n c:Nat} {v lv rv tlv uv cv bv av ev:Value} {g:Gz} {V:List (Value×Value)} {L E:List (List It)} {T:List (List (Nat×Bool))} {CC:List (List AX)} {base:List Nat} {P:List AI} {S:List Nat} {ED:List (Option AI×Edge)} {FR:List (Value×List It)} {FR0:List (List It)} {st n0:Nat} {p:Gz.Cv}
def Mk.cells{j l o t:Value}(h:Mk w1 w3 wr mb fb n c (.agg #[j,l,o,t]) lv rv tlv uv cv bv av ev g base P S ED FR) :
  (wr.cell? (mb,0)=some j/\wr.cell? (mb,1)=some l/\wr.cell? (mb,2)=some o/\wr.cell? (mb,3)=some t)/\wr.cell? (mb,4)=some lv/\wr.cell? (mb,5)=some rv/\wr.cell? (mb,6)=some tlv/\wr.cell? (mb,7)=some uv/\wr.cell? (mb,8)=some cv/\wr.cell? (mb,9)=some bv/\wr.cell? (mb,10)=some av/\wr.cell? (mb,11)=some ev/\wr.cell? (mb,12)=some (.slice (fb,0) n c):=by
 have i:=h.Ap.cell;exact⟨⟨i 0,i 1,i 2,i 3⟩,i 4,i 5,i 6,i 7,i 8,i 9,i 10,i 11,i 12⟩
def Ds.Lx{w:World}{f:Nat->List Nat}(h:Ds A w v n f)(I:k<n):∃b off c i c2,v=.slice (some ⟨b,off,none⟩) n c/\(A b/\b<w.heap.size)/\w.cell? ⟨b,off+k,none⟩=some (.slice i (f k).length c2)/\B4 A w (.slice i (f k).length c2) (f k):=by obtain⟨i,c,U,hn,hm,R⟩:=h;obtain⟨b,off,t,C,J,hx⟩:=R k I;obtain⟨x,j,l⟩:=hx 0 (by omega);obtain⟨o,c2,a0⟩:=l.shape;subst a0;refine⟨b,off,c,o,c2,by rw[U,t],⟨C,J⟩,?_,l⟩;rw[Nat.mul_one,Nat.add_zero]at j;exact j
def Jh.at_{w:World}{m:Nat}{CC:List (List AX)}(h:Jh A w m v n CC)(I:k<n):∃b off c i c2,v=.slice (some ⟨b,off,none⟩) n c/\(A b/\b<w.heap.size)/\w.cell? ⟨b,off+k,none⟩=some (.slice i (CC.getD k []).length c2)/\D9 A w m (.slice i (CC.getD k []).length c2) (CC.getD k []):=by obtain⟨i,c,U,hn,hm,R⟩:=h;obtain⟨b,off,t,C,J,hx⟩:=R k I;obtain⟨x,j,l⟩:=hx 0 (by omega);obtain⟨o,c2,a0,hh⟩:=id l;rw[a0]at j l;refine⟨b,off,c,o,c2,by rw[U,t],⟨C,J⟩,?_,l⟩;rw[Nat.mul_one,Nat.add_zero]at j;exact j
def D9.at_{w:World}{m:Nat}{C:Option Addr}{c:Nat}{l:List AX}(h:D9 A w m (.slice C n c) l){d:Nat}{x:AX}(J:l[d]?=some x):∃b off,∃i:AI,C=some ⟨b,off,none⟩/\(A b/\b<w.heap.size)/\w.cell? ⟨b,off+d*3,none⟩=some (.int .i64 (x.s:Nat))/\w.cell? ⟨b,off+d*3+1,none⟩=some i.v/\w.cell? ⟨b,off+d*3+2,none⟩=some (.bool x.self)/\i.n=m/\II A w i x.set:=by
 obtain⟨a1,a5⟩:=sG.1 J;have hg:l.getD d ⟨0,0,false⟩=x:=by rw[dG,J];rfl
 obtain⟨a4,c',hv,hn,hm,hr⟩:=h;cases hv
 obtain⟨b,off,a0,hb,a2,t⟩:=hr d a1;obtain⟨x0,h0,j⟩:=t 0 (by omega);obtain⟨x1,U,i,rfl,a3,R⟩:=t 1 (by omega);obtain⟨x2,I,o⟩:=t 2 (by omega);have j:x0=.int .i64 ((l.getD d ⟨0,0,false⟩).s:Nat):=j;have o:x2=.bool (l.getD d ⟨0,0,false⟩).self:=o;rw[hg]at j R o;refine⟨b,off,i,a0,⟨hb,a2⟩,?_,U,?_,a3,R⟩
 ·rw[j]at h0;exact h0
 ·rw[o]at I;exact I
def NK(w1 w3 w0:World)(mb fb n c:Nat)(v lv rv tlv uv cv bv:Value)(g:Gz)(base:List Nat)(S:List Nat)(FR0:List (List It))(st n0:Nat)(q:Gz.Cv)(e:Ending)(w':World):Prop:=
 e=.returned (.tuple #[])/\∃o t l i j,Db w1 w3 w0 w' mb fb n c v lv rv tlv uv cv bv o t g base l S i j FR0 st n0 q
def Db.bF(J:GN w1 v g)(h:Db w1 w3 w0 wr mb fb n c v lv rv tlv uv cv bv av ev g base P S ED FR FR0 st n0 p)(R:st<FR0.length)(C:p.1<=100000)(hF:p.2.1.length<=100000)(k:Nat) :
  () 158 #[(mb,0),st,k] wr fun e w2=>e=.returned (.int .i64 (Gz.Dk p.1 p.2.1 k).1)/\∃o i l,Db w1 w3 w0 w2 mb fb n c v lv rv tlv uv cv bv o ev g base i S ED l FR0 st n0 ((Gz.Dk p.1 p.2.1 k).2.1,(Gz.Dk p.1 p.2.1 k).2.2,p.2.2)/\AJ w1 [192,90,246,248] wr w2/\∀(q:Option AI) (T:Nat),Cq wr (g.nt+1) P q T->Cq w2 (g.nt+1) i q T:=by
 obtain⟨U,I⟩:=h.row;refine(kD (s:=st) (k:=k) J h.Bz (by rw[h.len];exact C) I hF).mono ?_;intro e w2 j;have t:Gz.Dk P.length p.2.1 k=Gz.Dk p.1 p.2.1 k:=by rw[h.len]
 rw[t]at j;exact h.ended R j
def eU(hs:NM w1 w3 mb fb v lv rv tlv uv cv g V L E T CC)(h7:Small L base)(h:Db w1 w3 w0 wr mb fb n c v lv rv tlv uv cv bv av ev g base P S ED FR FR0 st n0 p)(ji:st<FR0.length)(h9:st<L.length){at_:Nat}(dn:x.1<=g.R.length)(hr:x.2<=1000000)(hq:g.GG L E base T CC st at_ x p=some q)(kk:q.1<=100000)(km:q.2.1.length<=100000)(kn:q.2.2.length<=1000000) :
  Calls Tryz.prog 113 #[.pointer (some ⟨mb,0,none⟩),.int .i64 st,.int .i64 at_,CQ x] wr (NK w1 w3 w0 mb fb n c v lv rv tlv uv cv bv g base S FR0 st n0 q):=by
 have gs:=Tz hq;have kj:=hs.gn.fit.nt;obtain⟨AT,cT,AN,cN,AR,cR,rfl,-,-⟩:=hs.gn.open_;have HS:=Hd hs;have b3:=Hd h7;have fe:=Hd h;have HQ:=Hd hq;have g2:Hid (∀y:World,Aj (XL mb fb w3.heap.size) w3 y->Ds (Sx mb fb w3.heap.size) y rv (g.R.length+1) g.right/\Ga (Sx mb fb w3.heap.size) y (g.nt+1) tlv (g.R.length+1) T/\Ds (Sx mb fb w3.heap.size) y uv (g.top+1) g.CF/\Jh (Sx mb fb w3.heap.size) y (g.nt+1) cv (g.top+1) CC):=Hd (fun y o=>⟨hs.Hq.AF o (fun b U=>U.no),hs.JY.AF o (fun b U=>U.no),hs.Qw.AF o (fun b U=>U.no),hs.QY.AF o (fun b U=>U.no)⟩)
 obtain⟨⟨z0,z1,z2,z3⟩,z4,z5,z6,z7,z8,z9,jx,ae,jy⟩:=h.Bz.cells;have ml:=h.Bz.Ap.lt;obtain⟨br,dq,cr,Ar,g6,jf,⟨gb,db⟩,ar,cx⟩:=hs.Hq.Lx (k:=x.1) (by omega);subst jf;obtain⟨t,l⟩:=x;simp only at ar cx dn hr;obtain⟨rl,ez⟩:∃b6,(g.right t).length=b6:=⟨_,rfl⟩
 have be:=Hd ez;rw[ez]at ar cx;have e9:Hid (∀y:World,Aj (XL mb fb w3.heap.size) w3 y->y.cell? ⟨br,dq+t,none⟩=some (.slice Ar rl g6)/\B4 (Sx mb fb w3.heap.size) y (.slice Ar rl g6) (g.right t)):=Hd (fun y o=>⟨(o.cell db gb.no _).trans ar,cx.AF o (fun b U=>U.no)⟩);obtain⟨ar,cx⟩:=e9 wr h.Bz.AF;have db:br<wr.heap.size:=AW db h.Bz.AF.size;have cf:=Hd (Ah.new wr 194 #[.int .i64 t,.int .i64 l]);have f8:=Hd (DX wr (.cells #[.int .i64 t,.int .i64 l] 194));have HG:=Hd gs;have kq:(t:Int)<((g.R.length+1:Nat):Int):=by omega
 have kr:(t:Int)<(g.R.length:Int)+1:=by omega
 unfold CQ;clear hs h7 h hq gs cx ez z0 z1 z2 z3 z4 z6 z7 z8 z9 jx jy gb;unfold NK;go_enter func113,ntmps113
 go_upto_region 1 with fail
 have x0:=Ah.cell cf 0;have x1:=Ah.cell cf 1;have xl:=Ah.lt cf;simp at x0 x1 xl;go_quiet (fail)
 have a9:=Hd ((fe.later f8).later (w2:=(wr.alloc (.cells #[.int .i64 t,.int .i64 l] 194)).drewN nq) ⟨rfl,rfl,rfl,AG _,fun _ _=>rfl⟩);have b5:Hid (Ah ((wr.alloc (.cells #[.int .i64 t,.int .i64 l] 194)).drewN nq) wr.heap.size 194 #[.int .i64 t,.int .i64 l]):=Hd (cf.drewN nq);generalize (wr.alloc (.cells #[.int .i64 t,.int .i64 l] 194)).drewN nq=W at *;generalize wr.heap.size=I at *;have k6:=Hd b5.lt;clear x0 x1 xl z5 ae ml ar db cf f8 fe;have x0:W.cell? ⟨I,0,none⟩=some (.int .i64 t):=Ah.cell b5 0;have x1:W.cell? ⟨I,1,none⟩=some (.int .i64 l):=Ah.cell b5 1
 have xl:=b5.lt;by_cases en:rl<=l
 ·have eo:((rl:Int)<=(l:Int)):=by omega
  have HE:Hid (q=p):=Hd (by have h:=HQ.out;unfold Gz.GG at h;rw[if_pos (by rw[be.out];exact en)]at h;exact(Option.some.inj h).symm)
  clear en;go_wp2_with fail
  refine bodyPost_ret (results_none rfl _ _ _) rfl ?_;refine⟨rfl,av,ev,P,ED,FR,?_⟩;rw[HE.out];exact a9
 ·have eo:¬((rl:Int)<=(l:Int)):=by omega
  have es:l<rl:=by omega
  obtain⟨t0,au,gz⟩:∃t0,g.Hm L E base st (t,l)=some t0/\(if g.BJ (g.next (t,l)) then g.F1 L E base st at_ (Gz.Gx T t l) (CC.getD (g.next (t,l)) []) (p.1,p.2.1,p.2.2++[⟨t0,at_,0,true⟩]) else some (p.1,p.2.1,p.2.2++[⟨t0,at_,0,true⟩]))=some q:=by
   have h:=HQ.out;unfold Gz.GG at h;rw[if_neg (by rw[be.out];omega)]at h;split at h
   ·cases h
   ·rename_i t0 hd
    exact⟨t0,hd,h⟩
  have e8:=Hd gz;have fx:Hid (Calls Tryz.prog 154 #[.pointer (some ⟨mb,0,none⟩),.int .i64 st,CQ (t,l)] W.drew fun e w'=>e=.returned (.int .i64 t0)/\Below W.heap.size W w'):=Hd (by
   have hm:=a9.Bz;obtain⟨⟨y0,y1,y2,y3⟩,y4,y5,y6,y7,y8,y9,jv,a2,jw⟩:=hm.cells;have hB:BF W bv base:=Hh hm.F7 (by have h1:=b3.1;have h2:=HS.Ge.len.1;have h3:=HS.Ge.small;omega)
   refine(Qg (w:=W.drew) (A:=Sx mb fb w3.heap.size) (V:=V) (L:=L) (E:=E) (base:=base) (g:=g) y4 y5 y9 (HS.Ge.later (hm.below.trans (((Below.refl _ W).drew).mono hm.below.size))) ((g2 W hm.AF).1.AF (X:=fun _=>False) ⟨rfl,rfl,rfl,AG _,fun _ _ _=>rfl⟩ (fun _ _=>id)) (hB.later ((Below.refl _ W).drew)) b3.1 dn (by rw[be.out];exact es) hr h9 au (N1 b3 au)).mono ?_;rintro e w' ⟨rfl,h2⟩;exact⟨rfl,((Below.refl _ W).drew).trans h2⟩)
  have hd:=N1 b3 au;obtain⟨Ae,ce,j7⟩:=CG a9.Bz.EK;subst j7;have j6:ED.length<=1000000:=by have h1:=congrArg List.length a9.JL;rw[lM]at h1;have h2:=HG.2.2;omega
  obtain⟨ne,dj⟩:∃k,ED.length=k:=⟨_,rfl⟩
  have d4:=Hd dj;have ae:W.cell? ⟨mb,11,none⟩=some (.slice Ae ne ce):=by rw[<-dj];exact a9.Bz.cells.2.2.2.2.2.2.2.2.1
  have ml:=a9.Bz.Ap.lt;rw[dj]at j6;have ir:=Hd a9.Bz.AF.size;have d5:Hid (∀Y,Below W.heap.size W Y->Y.cell? ⟨mb,11,none⟩=some (.slice Ae ne ce)/\Y.cell? ⟨I,0,none⟩=some (.int .i64 t)/\Y.cell? ⟨I,1,none⟩=some (.int .i64 l)):=Hd (fun Y o=>⟨(o.cell (p:=⟨mb,11,none⟩) ml).trans ae,(o.cell (p:=⟨I,0,none⟩) xl).trans x0,(o.cell (p:=⟨I,1,none⟩) xl).trans x1⟩);unfold CQ at fx;clear gz au dj HQ en;go_upto_region 3 with fail
  refine Eb 15 (fun(v:World)=>v.cell? ⟨mb,11,none⟩=some (.slice Ae ne ce)/\v.cell? ⟨I,0,none⟩=some (.int .i64 t)/\v.cell? ⟨I,1,none⟩=some (.int .i64 l)) (by kernel_rfl) ?_;have i:(fun(v:World)=>v.cell? ⟨mb,11,none⟩=some (.slice Ae ne ce)/\v.cell? ⟨I,0,none⟩=some (.int .i64 t)/\v.cell? ⟨I,1,none⟩=some (.int .i64 l)) W.drew:=⟨ae,x0,x1⟩
  refine AE 0 i ?_;simp only[AD,AA];refine AE 1 i ?_;simp only[AD,AA];refine AE 2 i ?_;simp only[AD,AA];refine AE 3 i ?_;simp only[AD,AA];refine AE 4 i ?_;simp only[AD,AA];refine AE 5 i ?_;simp only[AD,AA];refine AE 6 i ?_;simp only[AD,AA];refine AE 7 i ?_;simp only[AD,AA];refine AE 9 i ?_;simp only[AD,AA];refine Bj 8 (by kernel_rfl) rfl rfl (fun K j=>?_);go_simp;refine fx.mono ?_;rintro e w2 ⟨rfl,ao⟩;have f7:=Hd ao;have b7:Hid (Below W.heap.size W (w2.alloc (.cells #[.int .i64 (t0:Nat),.int .i64 (at_:Nat),.pointer none,.bool true] 240))):=Hd (ao.alloc ao.size _)
  clear ao i;refine j _ _ (fun _=>d5 w2 f7) ?_;clear j K;have i:(fun(v:World)=>v.cell? ⟨mb,11,none⟩=some (.slice Ae ne ce)/\v.cell? ⟨I,0,none⟩=some (.int .i64 t)/\v.cell? ⟨I,1,none⟩=some (.int .i64 l)) w2:=d5 w2 f7;refine AE 10 i ?_;simp only[AD,AA];clear i;refine Bj 11 (by kernel_rfl) rfl rfl (fun K j=>?_);go_simp;refine j _ _ (fun _=>d5 _ b7) ?_;clear j K;refine GH 12 (by kernel_rfl) rfl rfl rfl (fun K j=>?_);refine Ep OM (.tmp 34) (.tmp 41) rfl (base:=w3.heap.size) (n:=ne) (m:=1) (N:=ne+1) (v:=.slice Ae ne ce) (src:=.slice (some ⟨w2.heap.size,0,none⟩) 1 1) (xs:=ED.flatMap DH) (news:=DH (none,⟨t0,at_,0,true⟩)) rfl rfl (AV (by have h:=a9.Bz.EK;rw[d4.out]at h;exact h) b7) (Bf.Ap (c:=1) (cs:=DH (none,⟨t0,at_,0,true⟩)) (Ah.new w2 240 _) rfl (fun u hu=>by unfold DH hV at hu;simp at hu;rcases hu with rfl|rfl|rfl|rfl<;>rfl)) rfl (by unfold maxLen;omega) (by omega) (by have:=ir.out;have:=b7.size;omega) ?_
  intro A4 c4 w4 q1 q2 q3;have d3:=Hd (a9.Lb b7 (x:=(none,⟨t0,at_,0,true⟩)) (A:=A4) (c2:=c4) rfl (by rw[d4.out];exact q1) q2);rw[d4.out]at d3;have e5:Hid (Ah w4 mb 192 _):=Hd (q2.Ap (a9.Bz.Ap.below b7 a9.Bz.Ap.lt) (.inr (by decide)));have a2:w4.cell? ⟨mb,11,none⟩=some (.slice Ae ED.length ce):=Ah.cell e5 11;rw[d4.out]at a2;have yf:=Ah.frozen e5 11;have yl:=e5.lt;have g1:Hid (Ah w4 I 194 #[.int .i64 t,.int .i64 l]):=Hd (q2.Ap (b5.below b7 b5.lt) (.inr (by decide)));have y0:w4.cell? ⟨I,0,none⟩=some (.int .i64 t):=Ah.cell g1 0
  have y1:w4.cell? ⟨I,1,none⟩=some (.int .i64 l):=Ah.cell g1 1;clear q1 q2 q3;refine j _ _ (fun _=>⟨a2,y0,y1⟩) ?_;clear j K;simp only[List.set_cons_succ,List.set_cons_zero];refine Bj 13 (by kernel_rfl) rfl rfl (fun K j=>?_);go_simp;refine j _ _ (fun _=>⟨a2,y0,y1⟩) ?_;clear j K;refine Bj 14 (by kernel_rfl) rfl rfl (fun K j=>?_);go_simp;refine j _ _ (fun _=>⟨a2,y0,y1⟩) ?_;clear j K;refine Bj 15 (by kernel_rfl) rfl rfl (fun K j=>?_);go_simp;refine j _ _ (fun h=>absurd rfl h) ?_;clear j K;refine DU (by kernel_rfl) ?_ _;have ax:=Hd d3.1;have cd:Hid (Ah (w4.setCell ⟨mb,11,none⟩ (.slice A4 (ne+1) c4)) I 194 #[.int .i64 t,.int .i64 l]):=Hd (d3.2.Ap b5 (.inr (by decide)))
  generalize w4.setCell ⟨mb,11,none⟩ (.slice A4 (ne+1) c4)=W5 at *;clear d3;clear y0 y1 a2 yf yl x0 x1 xl ae ml;obtain⟨ss,ad⟩:∃s,(g.right t)[l]?=some s:=⟨_,eG (by rw[be.out];exact es)⟩
  have h8:g.next (t,l)=ss:=by unfold Gz.next;rw[dG,ad];rfl
  have ko:ss<=g.top:=HS.gn.fit.L1 (mG ad);rw[h8]at e8;obtain⟨bS,oS,ix,k9,gd,bh⟩:=(e9 W5 ax.Bz.AF).2.at_ ad;subst ix;have eb:Hid (∀y:World,Below W5.heap.size W5 y->(y.cell? ⟨mb,0,none⟩=some (.slice AT g.nt cT)/\y.cell? ⟨mb,1,none⟩=some (.slice AN g.nn cN)/\y.cell? ⟨mb,2,none⟩=some (.slice AR g.R.length cR)/\y.cell? ⟨mb,3,none⟩=some (.int .i64 g.s))/\y.cell? ⟨I,0,none⟩=some (.int .i64 t)/\y.cell? ⟨I,1,none⟩=some (.int .i64 l)/\y.cell? ⟨bS,oS+l,none⟩=some (.int .i64 ss)):=Hd (fun y o=>by have U:=cd.below o cd.lt;exact⟨(ax.Bz.later o).cells.1,U.cell 0,U.cell 1,(o.cell (p:=⟨bS,oS+l,none⟩) gd).trans bh⟩)
  have cz:Hid (Below W5.heap.size W5 W5.drew):=Hd ((Below.refl _ W5).drew);have fm:=Hd (Ml (HS.gn.later (ax.Bz.below.trans (cz.mono ax.Bz.below.size))) ss);have kp:(l:Int)<(rl:Int):=by omega
  have ij:=Hd ad;clear ad h8 bh gd;go_upto_region 4 with fail
  go_region_held3 (fun v=>(v.cell? ⟨mb,0,none⟩=some (.slice AT g.nt cT)/\v.cell? ⟨mb,1,none⟩=some (.slice AN g.nn cN)/\v.cell? ⟨mb,2,none⟩=some (.slice AR g.R.length cR)/\v.cell? ⟨mb,3,none⟩=some (.int .i64 g.s))/\v.cell? ⟨I,0,none⟩=some (.int .i64 t)/\v.cell? ⟨I,1,none⟩=some (.int .i64 l)/\v.cell? ⟨bS,oS+l,none⟩=some (.int .i64 ss))
   (first|exact eb _ cz|exact eb _ bq)
   (first|(
        go_at_call 40;refine fm.mono ?_;rintro e w6 ⟨rfl,ga⟩
        have bq:=Hd (cz.trans ga);clear ga))
  cases cw:g.BJ ss with
  | false=>
   have fl:=Hd cw;clear cw;have HE:Hid (q=(p.1,p.2.1,p.2.2++[⟨t0,at_,0,true⟩])):=Hd (by have h:=e8.out;rw[fl.out,if_neg (by simp)]at h;exact(Option.some.inj h).symm)
   go_wp2_with fail
   refine bodyPost_ret (results_none rfl _ _ _) rfl ?_;refine⟨rfl,?_⟩;rw[HE.out];exact⟨_,_,_,_,_,ax.later bq⟩
  | true=>
   have fl:=Hd cw;have dw:Hid (g.F1 L E base st at_ (Gz.Gx T t l) (CC.getD ss []) (p.1,p.2.1,p.2.2++[⟨t0,at_,0,true⟩])=some q):=Hd (by have h:=e8.out;rw[cw,if_pos rfl]at h;exact h)
   clear cw;obtain⟨⟨tS,C⟩,f2⟩:∃dr,(T.getD t [])[l]?=some dr:=⟨_,eG (by rw[HS.Mc t dn,be.out];exact es)⟩
   have hf:Gz.Gx T t l=(tS,C):=by unfold Gz.Gx;rw[dG,f2];rfl
   rw[hf]at dw;obtain⟨bt,ot,ct,xt,jk,⟨j2,gh⟩,em,hg⟩:=HS.JY.at_ (k:=t) (by omega);subst jk;obtain⟨b2,o2,d8,J,jm,⟨g9,ao⟩,he,dm,hn,f1⟩:=hg.at_ f2;subst jm;have hl:(T.getD t []).length=rl:=by rw[HS.Mc t dn,be.out]
   rw[hl]at em;have ed:Hid (∀y:World,Aj (XL mb fb w3.heap.size) w3 y->(y.cell? ⟨bt,ot+t,none⟩=some (.slice (some ⟨b2,o2,none⟩) rl d8)/\y.cell? ⟨b2,o2+l*2,none⟩=some (.pointer (some ⟨J.h,0,none⟩))/\y.cell? ⟨b2,o2+l*2+1,none⟩=some (.bool C))/\AU y J tS/\bt<y.heap.size/\b2<y.heap.size):=Hd (fun y o=>⟨⟨(o.cell gh j2.no _).trans em,(o.cell ao g9.no _).trans he,(o.cell ao g9.no _).trans dm⟩,(f1.AF o (fun b U=>U.no)).1,AW gh o.size,AW ao o.size⟩);have ip:=Hd hn;have k4:Hid (J.wb<w3.heap.size):=Hd f1.2.2.1;clear f2 hf hg em he dm f1 hn hl
   have c7:=Hd (ax.later bq);have al:=Hd (cd.below bq cd.lt);have f3:w6.cell? ⟨mb,6,none⟩=some (.slice (some ⟨bt,ot,none⟩) (g.R.length+1) ct):=c7.Bz.cells.2.2.2.1;obtain⟨⟨k1,k2,k3⟩,_,aw,f4⟩:=ed w6 c7.Bz.AF;have x0:w6.cell? ⟨I,0,none⟩=some (.int .i64 t):=Ah.cell al 0;have x1:w6.cell? ⟨I,1,none⟩=some (.int .i64 l):=Ah.cell al 1;have hv:=c7.Bz.Ap.lt;have jt:=al.lt;go_upto_region 5 with fail
   refine Eb 13 (fun(v:World)=>v.cell? ⟨mb,6,none⟩=some (.slice (some ⟨bt,ot,none⟩) (g.R.length+1) ct)/\v.cell? ⟨I,0,none⟩=some (.int .i64 t)/\v.cell? ⟨I,1,none⟩=some (.int .i64 l)/\v.cell? ⟨bt,ot+t,none⟩=some (.slice (some ⟨b2,o2,none⟩) rl d8)/\v.cell? ⟨b2,o2+l*2,none⟩=some (.pointer (some ⟨J.h,0,none⟩))/\v.cell? ⟨b2,o2+l*2+1,none⟩=some (.bool C)) (by kernel_rfl) ?_;have i:(fun(v:World)=>v.cell? ⟨mb,6,none⟩=some (.slice (some ⟨bt,ot,none⟩) (g.R.length+1) ct)/\v.cell? ⟨I,0,none⟩=some (.int .i64 t)/\v.cell? ⟨I,1,none⟩=some (.int .i64 l)/\v.cell? ⟨bt,ot+t,none⟩=some (.slice (some ⟨b2,o2,none⟩) rl d8)/\v.cell? ⟨b2,o2+l*2,none⟩=some (.pointer (some ⟨J.h,0,none⟩))/\v.cell? ⟨b2,o2+l*2+1,none⟩=some (.bool C)) w6.drew:=⟨f3,x0,x1,k1,k2,k3⟩
   refine AE 0 i ?_;simp only[AD,AA];refine AE 1 i ?_;simp only[AD,AA];refine AE 2 i ?_;simp only[AD,AA];refine AE 3 i ?_;simp only[AD,AA];refine AE 4 i ?_;simp only[AD,AA];refine AE 5 i ?_;simp only[AD,AA];refine AE 6 i ?_;simp only[AD,AA];refine AE 7 i ?_;simp only[AD,AA];refine AE 8 i ?_;simp only[AD,AA];refine AE 9 i ?_;simp only[AD,AA];refine AE 10 i ?_;simp only[AD,AA];refine AE 11 i ?_;simp only[AD,AA];clear i;have ft:Hid (∀Y,Below w6.heap.size w6 Y->(fun(v:World)=>v.cell? ⟨mb,6,none⟩=some (.slice (some ⟨bt,ot,none⟩) (g.R.length+1) ct)/\v.cell? ⟨I,0,none⟩=some (.int .i64 t)/\v.cell? ⟨I,1,none⟩=some (.int .i64 l)/\v.cell? ⟨bt,ot+t,none⟩=some (.slice (some ⟨b2,o2,none⟩) rl d8)/\v.cell? ⟨b2,o2+l*2,none⟩=some (.pointer (some ⟨J.h,0,none⟩))/\v.cell? ⟨b2,o2+l*2+1,none⟩=some (.bool C)) Y):=Hd (fun Y o=>by
    have U:=al.below o al.lt;exact⟨(o.cell (p:=⟨mb,6,none⟩) hv).trans f3,U.cell 0,U.cell 1,(o.cell (p:=⟨bt,ot+t,none⟩) aw).trans k1,(o.cell (p:=⟨b2,o2+l*2,none⟩) f4).trans k2,(o.cell (p:=⟨b2,o2+l*2+1,none⟩) f4).trans k3⟩)
   refine Bj 12 (by kernel_rfl) rfl rfl (fun K j=>?_);go_simp;refine j _ _ (fun _=>ft _ (((Below.refl _ w6).alloc (AG _) _).drew)) ?_;clear j K;refine Bj 13 (by kernel_rfl) rfl rfl (fun K j=>?_);go_simp;refine j _ _ (fun h=>absurd rfl h) ?_;clear j K;refine DU (by kernel_rfl) ?_ _;have du:Hid (Below w6.heap.size w6 ((w6.alloc (.cells #[.pointer (some ⟨J.h,0,none⟩),.bool C] 235)).drew)):=Hd (((Below.refl _ w6).alloc (AG _) _).drew);have ca:Hid (Ah ((w6.alloc (.cells #[.pointer (some ⟨J.h,0,none⟩),.bool C] 235)).drew) w6.heap.size 235 #[.pointer (some ⟨J.h,0,none⟩),.bool C]):=Hd (Ah.drew (Ah.new w6 235 _))
   have ay:=Hd (c7.later du);have d7:=Hd (al.below du al.lt);generalize (w6.alloc (.cells #[.pointer (some ⟨J.h,0,none⟩),.bool C] 235)).drew=W7 at *;generalize w6.heap.size=tb at *;clear k1 k2 k3 aw f4 x0 x1 hv jt f3 c7 al ft d5 ax cd eb fm cz;have hw:W7.cell? ⟨tb,0,none⟩=some (.pointer (some ⟨J.h,0,none⟩)):=Ah.cell ca 0;have bi:W7.cell? ⟨tb,1,none⟩=some (.bool C):=Ah.cell ca 1;have hy:=ca.lt;obtain⟨nn,aq⟩:∃b,(!C&&tS==0)=b:=⟨_,rfl⟩
   have ie:=Hd aq;go_upto_region 6 with fail
   go_cut [10] (fun nv wx=>nv=.bool nn/\wx=W7)
   case first=>
    cases C with
    | true=>
     have cp:nn=false:=by rw[<-aq];rfl
     subst cp;clear aq;go_wp2_with fail
     go_meet
     exact⟨rfl,rfl⟩
    | false=>
     obtain⟨qq,gl,eu,ew⟩:=PV (ed W7 ay.Bz.AF).2.1;have e6:=Hd gl;unfold AI.v at e6;clear gl;by_cases hz:tS=0
     ·have cp:nn=true:=by rw[<-aq,hz];rfl
      have jd:qq<0:=eu hz;subst cp;clear aq eu ew hz;go_wp2_with (go_at_call 155;refine e6.mono ?_;rintro e w8 ⟨rfl,rfl⟩)
      go_meet
      exact⟨rfl,rfl⟩
     ·have cp:nn=false:=by rw[<-aq];simp[hz]
      have jd:¬(qq<0):=by have:=ew hz;omega
      subst cp;clear aq eu ew hz;go_wp2_with (go_at_call 155;refine e6.mono ?_;rintro e w8 ⟨rfl,rfl⟩)
      go_meet
      exact⟨by rw[decide_eq_false (show ¬qq<0 by omega)],rfl⟩
   case rest=>
    obtain⟨rfl,rfl⟩:=hcut;clear aq hw bi;obtain⟨bc,oc,cc,Ac,g4,j5,⟨gf,ej⟩,dc,cm⟩:=HS.QY.at_ (k:=ss) (by omega);subst j5;obtain⟨CL,eh⟩:∃b6,CC.getD ss []=b6:=⟨_,rfl⟩
    rw[eh]at dc cm dw;have i4:Hid (∀c∈CL,c.s<=g.top):=Hd (fun c hc=>by
     rw[<-eh,dG]at hc;cases hq:CC[ss]? with
     | none=>rw[hq]at hc;cases hc
     | some b6=>rw[hq]at hc;exact HS.Zl b6 (mG hq) c hc)
    obtain⟨lc,er⟩:∃k,CL.length=k:=⟨_,rfl⟩
    have e4:=Hd er;rw[er]at dc cm;have f9:Hid (∀y:World,Aj (XL mb fb w3.heap.size) w3 y->y.cell? ⟨bc,oc+ss,none⟩=some (.slice Ac lc g4)/\bc<y.heap.size/\D9 (Sx mb fb w3.heap.size) y (g.nt+1) (.slice Ac lc g4) CL):=Hd (fun y o=>⟨(o.cell ej gf.no _).trans dc,AW ej o.size,cm.AF o (fun b U=>U.no)⟩);have kh:lc<=1000000:=by obtain⟨_,_,_,_,hm,_⟩:=cm;rw[e4.out]at hm;exact hm
    clear dc cm ej gf eh er;have jn:wc.cell? ⟨mb,8,none⟩=some (.slice (some ⟨bc,oc,none⟩) (g.top+1) cc):=ay.Bz.cells.2.2.2.2.2.1;have x1:wc.cell? ⟨I,1,none⟩=some (.int .i64 l):=Ah.cell d7 1;obtain⟨k1,aw,-⟩:=f9 wc ay.Bz.AF;have bh:wc.cell? ⟨bS,oS+l,none⟩=some (.int .i64 ss)/\bS<wc.heap.size:=by
     obtain⟨b',o',e,_,h1,h2⟩:=(e9 wc ay.Bz.AF).2.at_ ij;cases e
     exact⟨h2,h1⟩
    obtain⟨bh,jc⟩:=bh;have jg:(ss:Int)<((g.top+1:Nat):Int):=by omega
    have jh:(ss:Int)<(g.top:Int)+1:=by omega
    have jq:=ay.Bz.Ap.lt;have ju:=d7.lt;go_upto_region 7 with fail
    go_quiet (fail)
    have ib:=Hd (ay.later (w2:=wc.drewN nq) ⟨rfl,rfl,rfl,AG _,fun _ _=>rfl⟩);have k5:Hid (Ah (wc.drewN nq) I 194 #[.int .i64 t,.int .i64 l]):=Hd (d7.drewN nq);have im:Hid (Ah (wc.drewN nq) tb 235 #[.pointer (some ⟨J.h,0,none⟩),.bool C]):=Hd (ca.drewN nq);generalize wc.drewN nq=W8 at *;clear jn x1 k1 aw bh jc jg jh jq ju hy ay d7 ca du bq;go_wp2_with fail
    go_loopg [89] lc (fun m jj wr=>∃(aa:Nat) (cg ef:Value) (P':List AI) (ds:List (Option AI×Edge)) (bm:List (Value×List It)) (p':Gz.Cv),Hid (m+aa=lc)/\aa<=lc/\jj=.int .i64 aa/\Hid (Db w1 w3 w0 wr mb fb n c (.agg #[.slice AT g.nt cT,.slice AN g.nn cN,.slice AR g.R.length cR,.int .i64 g.s]) lv (.slice (some ⟨br,dq,none⟩) (g.R.length+1) cr) (.slice (some ⟨bt,ot,none⟩) (g.R.length+1) ct) uv (.slice (some ⟨bc,oc,none⟩) (g.top+1) cc) bv cg ef g base P' S ds bm FR0 st n0 p')/\Hid (g.F1 L E base st at_ (tS,C) (CL.drop aa) p'=some q)/\Hid (AJ w1.heap.size TT W8 wr))
    case atStart=>exact⟨0,_,_,_,_,_,_,Hd rfl,AZ _,rfl,ib,dw,Hd (AJ.refl _ _ _)⟩
    case round=>
     obtain⟨aa,k7,k8,P1,jz,k0,p1,fk,hj,rfl,c8,dz,fg⟩:=hrel;rename World=>w9
     by_cases gw:aa<lc
     ·have fj:=Hd gw
      obtain⟨⟨cs,bf,a4⟩,de⟩:∃x,CL[aa]?=some x:=⟨_,eG (by rw[e4.out];exact gw)⟩
      have kd:cs<=g.top:=i4 _ (mG de);obtain⟨bd,od,a7,iw,⟨j1,j0⟩,d0,d1,d2,gm,dd⟩:=(f9 w9 c8.Bz.AF).2.2.at_ de;subst iw;simp only at d0 d2 dd;obtain⟨SS,ei⟩:∃x,(if a4 then bf|||tS else bf)=x:=⟨_,rfl⟩
      obtain⟨p3,gx,gy⟩:∃p3,g.Fm L E base st at_ SS (a4&&C) nn (g.CF cs) p1=some p3/\g.F1 L E base st at_ (tS,C) (CL.drop (aa+1)) p3=some q:=by
       have h:=dz.out;rw[IC de]at h;unfold Gz.F1 at h;simp only at h;rw[ei,ie.out]at h;split at h
       ·cases h
       ·rename_i p3 h3
        exact⟨p3,h3,h⟩
      have fp:=Hd gx;have fq:=Hd gy;have bx:Hid (AU w9 a7 bf/\a7.n=g.nt+1/\a7.wb<w3.heap.size):=Hd ⟨dd.1,gm,dd.2.2.1⟩;have aj:Hid (Ah (w9.alloc (.cells #[.int .i64 cs,a7.v,.bool a4] 242)) w9.heap.size 242 #[.int .i64 cs,a7.v,.bool a4]):=Hd (Ah.new w9 242 _);have bo:=Hd (DX w9 (.cells #[.int .i64 cs,a7.v,.bool a4] 242));unfold AI.v at d1 aj bo;have fu:=Hd ei;clear de ei gx gy gm dd dz
      go_upto_if 96 with fail
      have c0:=Hd (c8.later bo);have e3:=Hd (fg.trans (AJ.AK bo));have dv:Hid (AU (w9.alloc (.cells #[.int .i64 cs,.pointer (some ⟨a7.h,0,none⟩),.bool a4] 242)) a7 bf):=Hd (bx.1.later bo);generalize w9.alloc (.cells #[.int .i64 cs,.pointer (some ⟨a7.h,0,none⟩),.bool a4] 242)=an at *;generalize w9.heap.size=cb at *;clear d0 d1 d2 j0 j1;have b4:=Hd (e3.Ap im (.inr (by decide)));have b0:an.cell? ⟨cb,0,none⟩=some (.int .i64 cs):=Ah.cell aj 0;have b1:an.cell? ⟨cb,1,none⟩=some (.pointer (some ⟨a7.h,0,none⟩)):=Ah.cell aj 1
      have iu:an.cell? ⟨cb,2,none⟩=some (.bool a4):=Ah.cell aj 2;have bl:=aj.lt
      go_cut [13] (fun sv wx=>∃hh:AI,sv=.pointer (some ⟨hh.h,0,none⟩)/\Hid (Cq wx (g.nt+1) P1 (some hh) SS)/\Hid (Below an.heap.size an wx))
      case first=>
       cases a4 with
       | false=>
        have ad:bf=SS:=by have:=fu.out;simpa using this
        go_wp2_with fail
        go_meet
        refine⟨a7,rfl,Hd ⟨by rw[<-ad];exact dv,bx.2.1,fun p hp=>?_⟩,Hd (Below.refl _ _)⟩;have h1:=(c0.Bz.new p hp).2;have h2:=bx.2.2;omega
       | true=>
        have ad:bf|||tS=SS:=by have:=fu.out;simpa using this
        have fy:=Hd (UP dv);have hw:an.cell? ⟨tb,0,none⟩=some (.pointer (some ⟨J.h,0,none⟩)):=Ah.cell b4 0;have hy:=b4.lt;unfold AI.v at fy;have ik:=Hd ad;clear ad;go_wp2_with (first
         | (
           go_at_call 156;refine fy.mono ?_;rintro e i0 ⟨tw,rfl,et,gu,ho,f0,da⟩
           have f6:=Hd da;have ec:=Hd (And.intro et (And.intro gu (And.intro ho f0)));have fo:=Hd (Hk f0 ((ed i0 (c0.later da).Bz.AF).2.1) (by rw[ip.out,et,bx.2.1]));have ks:i0.cell? ⟨tb,0,none⟩=some (.pointer (some ⟨J.h,0,none⟩)):=Ah.cell (b4.below da b4.lt) 0;unfold AI.v at fo;clear da et gu ho f0)
         | (
           go_at_call 157;refine fo.mono ?_;rintro e jr ⟨rfl,h6,gj⟩
           have ih:=Hd h6;have i2:Hid (Below an.heap.size an jr):=Hd (f6.trans (gj.below f6.size (fun k hk e=>by have e2:k=tw.wb:=e;have:=ec.2.2.1;omega)));clear h6 gj))
        go_meet
        refine⟨tw,rfl,Hd ⟨by rw[<-ik.out];exact ih,by rw[ec.1];exact bx.2.1,fun p hp=>?_⟩,i2⟩;obtain⟨T',iz⟩:=c0.Bz.AM.mem hp;have h1:=iz.words.lt;have h2:=ec.2.2.1;omega
      case rest=>
       obtain⟨hh,rfl,fc,bp⟩:=hcut;rename World=>ah
       have c6:=Hd (c0.later bp);have ff:=Hd (e3.trans (AJ.AK bp));have cy:=Hd (aj.below bp aj.lt);have fw:=Hd (b4.below bp b4.lt);clear b0 b1 iu bl c0 e3 aj b4 dv c8 fg bo;obtain⟨bu,ou,cu,Au,g7,jl,⟨gi,el⟩,df,dk⟩:=HS.Qw.Lx (k:=cs) (by omega);subst jl;obtain⟨RL,d9⟩:∃b6,g.CF cs=b6:=⟨_,rfl⟩
       have ig:Hid (∀k∈RL,k<g.R.length):=Hd (fun k hk=>by rw[<-d9]at hk;unfold Gz.CF at hk;exact List.mem_range.1 (List.mem_filter.1 hk).1);rw[d9]at df dk fp;obtain⟨lr,di⟩:∃k,RL.length=k:=⟨_,rfl⟩
       have fi:=Hd di;rw[di]at df dk;have fz:Hid (∀y:World,Aj (XL mb fb w3.heap.size) w3 y->(y.cell? ⟨bu,ou+cs,none⟩=some (.slice Au lr g7)/\bu<y.heap.size)/\B4 (Sx mb fb w3.heap.size) y (.slice Au lr g7) RL):=Hd (fun y o=>⟨⟨(o.cell el gi.no _).trans df,AW el o.size⟩,dk.AF o (fun b U=>U.no)⟩);have ki:lr<=300:=by rw[<-di,<-d9];exact AY (LC g cs) HS.gn.fit.nr
       clear df dk el gi d9 di;have z7:ah.cell? ⟨mb,7,none⟩=some (.slice (some ⟨bu,ou,none⟩) (g.top+1) cu):=c6.Bz.cells.2.2.2.2.1;obtain⟨⟨k1,aw⟩,-⟩:=fz ah c6.Bz.AF;have b0:ah.cell? ⟨cb,0,none⟩=some (.int .i64 cs):=Ah.cell cy 0;have bl:=cy.lt;have jo:=c6.Bz.Ap.lt;have j3:(cs:Int)<((g.top+1:Nat):Int):=by omega
       have j4:(cs:Int)<(g.top:Int)+1:=by omega
       go_upto_region 14 with fail
       go_quiet (fail)
       have ia:=Hd (c6.later (w2:=ah.drewN nq) ⟨rfl,rfl,rfl,AG _,fun _ _=>rfl⟩);have ic:Hid (AJ w1.heap.size TT W8 (ah.drewN nq)):=Hd (ff.drewN nq);have i3:Hid (Ah (ah.drewN nq) cb 242 #[.int .i64 cs,.pointer (some ⟨a7.h,0,none⟩),.bool a4]):=Hd (cy.drewN nq);have il:Hid (Ah (ah.drewN nq) tb 235 #[.pointer (some ⟨J.h,0,none⟩),.bool C]):=Hd (fw.drewN nq);have i9:Hid (Cq (ah.drewN nq) (g.nt+1) P1 (some hh) SS):=Hd (fc.later ⟨rfl,rfl,rfl,AG _,fun _ _=>rfl⟩);generalize ah.drewN nq=it at *;clear z7 k1 aw b0 bl jo j3 j4 c6 ff cy fw fc bp
       go_wp2_with fail
       go_loopg [113] lr (fun m ii wr=>∃(a3:Nat) (cg ef:Value) (P':List AI) (ds:List (Option AI×Edge)) (bm:List (Value×List It)) (p':Gz.Cv),Hid (m+a3=lr)/\a3<=lr/\ii=.int .i64 a3/\Hid (Db w1 w3 w0 wr mb fb n c (.agg #[.slice AT g.nt cT,.slice AN g.nn cN,.slice AR g.R.length cR,.int .i64 g.s]) lv (.slice (some ⟨br,dq,none⟩) (g.R.length+1) cr) (.slice (some ⟨bt,ot,none⟩) (g.R.length+1) ct) (.slice (some ⟨bu,ou,none⟩) (g.top+1) cu) (.slice (some ⟨bc,oc,none⟩) (g.top+1) cc) bv cg ef g base P' S ds bm FR0 st n0 p')/\Hid (g.Fm L E base st at_ SS (a4&&C) nn (RL.drop a3) p'=some p3)/\Hid (AJ w1.heap.size TT it wr)/\Hid (Cq wr (g.nt+1) P' (some hh) SS))
       case atStart=>exact⟨0,_,_,_,_,_,_,Hd rfl,AZ _,rfl,ia,fp,Hd (AJ.refl _ _ _),i9⟩
       case round=>
        obtain⟨a3,g3,eg,P2,af,f5,R,ba,hi,rfl,ak,dy,b8,fd⟩:=hrel;rename World=>ai
        by_cases gv:a3<lr
        ·obtain⟨k,hk⟩:∃x,RL[a3]?=some x:=⟨_,eG (by rw[fi.out];exact gv)⟩
         have kg:=ig k (mG hk);obtain⟨bk,ok,iy,kb,ka,kc⟩:=(fz ai ak.Bz.AF).2.at_ hk;subst iy;have gq:=IC hk;have dx:=Hd dy;rw[gq]at dx;clear hk gq dy;obtain⟨cj,dp,ee,i1,iv,h5,⟨gg,ek⟩,gp,je⟩:=HS.Hq.Lx (k:=k) (by omega);have fs:Hid (∀y:World,Aj (XL mb fb w3.heap.size) w3 y->y.cell? ⟨cj,dp+k,none⟩=some (.slice i1 (g.right k).length iv)/\cj<y.heap.size):=Hd (fun y o=>⟨(o.cell ek gg.no _).trans gp,AW ek o.size⟩);have e1:cj=br/\dp=dq/\ee=cr:=by cases h5;exact⟨rfl,rfl,rfl⟩
         obtain⟨rfl,rfl,rfl⟩:=e1;clear h5 gp je ek gg;obtain⟨kl,ep⟩:∃x,(g.right k).length=x:=⟨_,rfl⟩
         rw[ep]at fs;have fh:=Hd ep;clear ep;have z5:ai.cell? ⟨mb,5,none⟩=some (.slice (some ⟨cj,dp,none⟩) (g.R.length+1) ee):=ak.Bz.cells.2.2.1;obtain⟨k1,aw⟩:=fs ai ak.Bz.AF;have ja:(k:Int)<((g.R.length+1:Nat):Int):=by omega
         have jb:(k:Int)<(g.R.length:Int)+1:=by omega
         have kf:(a3:Int)<(lr:Int):=by omega
         obtain⟨r0,p4,ar,ey⟩:∃(r0:Nat) (p4:Nat×List It),((kl=0/\r0=(Gz.Dk R.1 R.2.1 k).1/\p4=(Gz.Dk R.1 R.2.1 k).2)\/(kl≠0/\g.Hm L E base st (k,0)=some r0/\p4=(R.1,R.2.1)))/\g.Fm L E base st at_ SS (a4&&C) nn (RL.drop (a3+1)) (p4.1,p4.2,if nn then R.2.2 else R.2.2++[⟨r0,at_,SS,a4&&C⟩])=some p3:=by
          have h:=dx.out;unfold Gz.Fm at h;rw[fh.out]at h;cases kl with
          | zero=>exact⟨_,_,.inl ⟨rfl,rfl,rfl⟩,h⟩
          | succ kl=>
            simp only at h;split at h
            ·cases h
            ·rename_i t1 dm
             exact⟨t1,(R.1,R.2.1),.inr ⟨Nat.succ_ne_zero _,dm,rfl⟩,h⟩
         have fr:=Hd ar;have e7:=Hd ey;have dg:=Md _ _ _ ey;have dh:=NH _ _ _ fq;have hb:p4.1<=100000/\p4.2.length<=100000:=by have h1:=dg.1;have h2:=dg.2.1;have h3:=dh.1;have h4:=dh.2.1;simp only at h1 h2;omega
         have gr:(if nn then R.2.2 else R.2.2++[(⟨r0,at_,SS,a4&&C⟩:Edge)]).length<=1000000:=by have h1:=dg.2.2;have h2:=dh.2.2;simp only at h1;omega
         have fv:=Hd (And.intro hb gr);have b9:=Hd gv;clear ar ey dg dh hb gr dx
         go_upto_if 125 with fail
         go_cut [16] (fun tv wx=>∃(cg:Value) (P':List AI) (bm:List (Value×List It)),tv=.int .i64 r0/\Hid (Db w1 w3 w0 wx mb fb n c (.agg #[.slice AT g.nt cT,.slice AN g.nn cN,.slice AR g.R.length cR,.int .i64 g.s]) lv (.slice (some ⟨cj,dp,none⟩) (g.R.length+1) ee) (.slice (some ⟨bt,ot,none⟩) (g.R.length+1) ct) (.slice (some ⟨bu,ou,none⟩) (g.top+1) cu) (.slice (some ⟨bc,oc,none⟩) (g.top+1) cc) bv cg eg g base P' S af bm FR0 st n0 (p4.1,p4.2,R.2.2))/\Hid (AJ w1.heap.size TT ai wx)/\Hid (Cq wx (g.nt+1) P' (some hh) SS))
         case first=>
          by_cases cn:kl=0
          · obtain⟨rfl,rfl⟩:r0=(Gz.Dk R.1 R.2.1 k).1/\p4=(Gz.Dk R.1 R.2.1 k).2:=by
             rcases fr.out with h|h
             ·exact h.2
             ·exact absurd cn h.1
            have j9:((kl:Int)==0)=true:=by rw[cn];rfl
            have hz:=fv.1;have eo:=OP R.1 R.2.1 k;have i7:=Hd (ak.bF HS.gn ji (by omega) (by omega) k);clear hz eo;clear cn;go_wp2_with (
               go_at_call 158;refine i7.mono ?_;rintro e js ⟨rfl,ch,P3,bn,h1,h2,h3⟩
               have H1:=Hd h1;have H2:=Hd h2;have H3:=Hd h3;clear h1 h2 h3)
            go_meet
            exact⟨ch,P3,bn,rfl,H1,Hd (H2.mono (AG _) (fun dr J=>by simp at J;rcases J with rfl|rfl|rfl|rfl<;>decide)),Hd (H3 _ _ fd)⟩
          · obtain⟨au,rfl⟩:g.Hm L E base st (k,0)=some r0/\p4=(R.1,R.2.1):=by
             rcases fr.out with h|h
             ·exact absurd h.1 cn
             ·exact h.2
            have j9:((kl:Int)==0)=false:=by rw[bN];omega
            have iq:Hid (Calls Tryz.prog 154 #[.pointer (some ⟨mb,0,none⟩),.int .i64 st,.agg #[.int .i64 k,.int .i64 0]] ai fun e w'=>e=.returned (.int .i64 r0)/\Below ai.heap.size ai w'):=Hd (by
             have hm:=ak.Bz;obtain⟨⟨y0,y1,y2,y3⟩,y4,y5,y6,y7,y8,y9,jv,a2,jw⟩:=hm.cells;have hB:BF ai bv base:=Hh hm.F7 (by have h1:=b3.1;have h2:=HS.Ge.len.1;have h3:=HS.Ge.small;omega)
             exact Qg (A:=Sx mb fb w3.heap.size) (V:=V) (L:=L) (E:=E) (base:=base) (g:=g) (x:=(k,0)) y4 y5 y9 (HS.Ge.later hm.below) (g2 ai hm.AF).1 hB b3.1 (by simp only;omega) (by simp only;rw[fh.out];omega) (by simp) h9 au (N1 b3 au))
            clear cn au;go_wp2_with (
               go_at_call 154;refine iq.mono ?_;rintro e js ⟨rfl,g8⟩
               have dt:=Hd g8;clear g8)
            go_meet
            exact⟨g3,P2,f5,rfl,Hd (ak.later dt),Hd (AJ.AK dt),Hd (fd.later dt)⟩
         case rest=>
          obtain⟨ch,P3,bn,rfl,a8,c9,bz⟩:=hcut;rename World=>a0
          clear z5 k1 aw ja jb;cases nn with
          | true=>
            go_wp2_with fail
            go_roundg (lr-(a3+1))
            case measure=>have:=ba.out;omega
            case rel=>exact⟨a3+1,ch,eg,P3,af,bn,(p4.1,p4.2,R.2.2),Hd (by have:=ba.out;have:=b9.out;omega),by have:=b9.out;omega,by go_num,a8,e7,Hd (b8.trans c9),bz⟩
          | false=>
            have bw:=Hd ((b8.trans c9).Ap i3 (.inr (by decide)));have d6:=Hd ((b8.trans c9).Ap il (.inr (by decide)));obtain⟨a5,a6,j8⟩:=CG a8.Bz.EK;subst j8;obtain⟨a1,cq⟩:∃k,af.length=k:=⟨_,rfl⟩
            have bb:=Hd cq;have ke:a1<=1000000:=by have h1:=fv.2;have h2:=congrArg List.length a8.JL;rw[lM,cq]at h2;simp only[Bool.false_eq_true,if_false,BO,List.length_singleton]at h1 h2;omega
            have ae:a0.cell? ⟨mb,11,none⟩=some (.slice a5 a1 a6):=by rw[<-cq];exact a8.Bz.cells.2.2.2.2.2.2.2.2.1
            have fa:Hid (a0.ownsRow w3.heap.size 240 4 (.slice a5 a1 a6) a1 (af.flatMap DH)):=Hd (by have h:=a8.Bz.EK;rw[cq]at h;exact h);have ht:=a8.Bz.Ap.lt;have g5:=bw.lt;have hx:=d6.lt;have bi:a0.cell? ⟨tb,1,none⟩=some (.bool C):=Ah.cell d6 1;have g0:=Hd a8.Bz.AF.size;clear cq;cases a4 with
            | true=>
             have cl:a0.cell? ⟨cb,2,none⟩=some (.bool true):=Ah.cell bw 2;have ea:Hid (∀Y,Below a0.heap.size a0 Y->(fun(v:World)=>v.cell? ⟨mb,11,none⟩=some (.slice a5 a1 a6)/\v.cell? ⟨cb,2,none⟩=some (.bool true)/\v.cell? ⟨tb,1,none⟩=some (.bool C)) Y):=Hd (fun Y o=>⟨(o.cell (p:=⟨mb,11,none⟩) ht).trans ae,(o.cell (p:=⟨cb,2,none⟩) g5).trans cl,(o.cell (p:=⟨tb,1,none⟩) hx).trans bi⟩);go_upto_region 22 with fail
             refine Eb 19 (fun(v:World)=>v.cell? ⟨mb,11,none⟩=some (.slice a5 a1 a6)/\v.cell? ⟨cb,2,none⟩=some (.bool true)/\v.cell? ⟨tb,1,none⟩=some (.bool C)) (by kernel_rfl) ?_;have i:(fun(v:World)=>v.cell? ⟨mb,11,none⟩=some (.slice a5 a1 a6)/\v.cell? ⟨cb,2,none⟩=some (.bool true)/\v.cell? ⟨tb,1,none⟩=some (.bool C)) a0.drew:=⟨ae,cl,bi⟩
             refine AE 0 i ?_;simp only[AD,AA];refine AE 1 i ?_;simp only[AD,AA];refine AE 2 i ?_;simp only[AD,AA];refine AE 3 i ?_;simp only[AD,AA];refine AE 4 i ?_;simp only[AD,AA];refine AE 5 i ?_;simp only[AD,AA];refine AE 6 i ?_;simp only[AD,AA];refine AE 7 i ?_;simp only[AD,AA];refine AE 8 i ?_;simp only[AD,AA];refine AE 9 i ?_;simp only[AD,AA];refine AE 10 i ?_;simp only[AD,AA];refine AE 11 i ?_;simp only[AD,AA];refine AE 12 i ?_;simp only[AD,AA]
             refine AE 13 i ?_;simp only[AD,AA];refine AE 14 i ?_;simp only[AD,AA];clear i;refine Bj 15 (by kernel_rfl) rfl rfl (fun K j=>?_);go_simp;refine j _ _ (fun _=>ea _ (((Below.refl _ a0).alloc (AG _) _).drew)) ?_;clear j K;refine GH 16 (by kernel_rfl) rfl rfl rfl (fun K j=>?_);refine Ep OM (.tmp 141) (.tmp 152) rfl (base:=w3.heap.size) (n:=a1) (m:=1) (N:=a1+1) (v:=.slice a5 a1 a6) (src:=.slice (some ⟨a0.heap.size,0,none⟩) 1 1) (xs:=af.flatMap DH) (news:=DH (some hh,⟨r0,at_,SS,true&&C⟩)) rfl rfl (AV (fa.alloc _) ((Below.refl _ _).drew)) (Bf.Ap (c:=1) (cs:=DH (some hh,⟨r0,at_,SS,true&&C⟩)) (Ah.drew (Ah.new a0 240 _)) rfl (fun u hu=>by unfold DH hV AI.v at hu;simp at hu;rcases hu with rfl|rfl|rfl|rfl<;>rfl)) rfl (by unfold maxLen;omega) (by omega) (by have:=g0.out;simp;omega) ?_
             intro bj ck ab q1 q2 q3;have ag:=Hd (a8.Lb (((Below.refl _ a0).alloc (AG _) (.cells #[.int .i64 (r0:Nat),.int .i64 (at_:Nat),.pointer (some ⟨hh.h,0,none⟩),.bool (true&&C)] 240)).drew) (x:=(some hh,⟨r0,at_,SS,true&&C⟩)) (A:=bj) (c2:=ck) bz (by rw[bb.out];exact q1) q2);rw[bb.out]at ag;have az:Hid (Ah ab mb 192 _):=Hd (q2.Ap (Ah.drew (a8.Bz.Ap.alloc _)) (.inr (by decide)));have a2:ab.cell? ⟨mb,11,none⟩=some (.slice a5 af.length a6):=Ah.cell az 11;rw[bb.out]at a2;have yf:=Ah.frozen az 11;have yl:=az.lt
             have y2:ab.cell? ⟨cb,2,none⟩=some (.bool true):=Ah.cell (q2.Ap (Ah.drew (bw.alloc _)) (.inr (by decide))) 2;have y3:ab.cell? ⟨tb,1,none⟩=some (.bool C):=Ah.cell (q2.Ap (Ah.drew (d6.alloc _)) (.inr (by decide))) 1;have e0:Hid (Cq (ab.setCell ⟨mb,11,none⟩ (.slice bj (a1+1) ck)) (g.nt+1) P3 (some hh) SS):=Hd (bz.keeps ag.2 (by decide) (by decide));clear q1 q2 q3;refine j _ _ (fun _=>⟨a2,y2,y3⟩) ?_;clear j K;simp only[List.set_cons_succ,List.set_cons_zero];refine Bj 17 (by kernel_rfl) rfl rfl (fun K j=>?_);go_simp;refine j _ _ (fun _=>⟨a2,y2,y3⟩) ?_
             clear j K;refine Bj 18 (by kernel_rfl) rfl rfl (fun K j=>?_);go_simp;refine j _ _ (fun _=>⟨a2,y2,y3⟩) ?_;clear j K;refine Bj 19 (by kernel_rfl) rfl rfl (fun K j=>?_);go_simp;refine j _ _ (fun h=>absurd rfl h) ?_;clear j K;refine DU (by kernel_rfl) ?_ _;go_wp2_with fail
             go_roundg (lr-(a3+1))
             case measure=>have:=ba.out;omega
             case rel=>exact⟨a3+1,ch,_,P3,_,bn,_,Hd (by have:=ba.out;have:=b9.out;omega),by have:=b9.out;omega,by go_num,Hd ag.1,e7,Hd ((b8.trans c9).trans (ag.2.mono (AG _) (fun dr J=>by simp at J;rcases J with rfl|rfl<;>decide))),e0⟩
            | false=>
             have cl:a0.cell? ⟨cb,2,none⟩=some (.bool false):=Ah.cell bw 2;have ea:Hid (∀Y,Below a0.heap.size a0 Y->(fun(v:World)=>v.cell? ⟨mb,11,none⟩=some (.slice a5 a1 a6)/\v.cell? ⟨cb,2,none⟩=some (.bool false)/\v.cell? ⟨tb,1,none⟩=some (.bool C)) Y):=Hd (fun Y o=>⟨(o.cell (p:=⟨mb,11,none⟩) ht).trans ae,(o.cell (p:=⟨cb,2,none⟩) g5).trans cl,(o.cell (p:=⟨tb,1,none⟩) hx).trans bi⟩);go_upto_region 22 with fail
             refine Eb 19 (fun(v:World)=>v.cell? ⟨mb,11,none⟩=some (.slice a5 a1 a6)/\v.cell? ⟨cb,2,none⟩=some (.bool false)/\v.cell? ⟨tb,1,none⟩=some (.bool C)) (by kernel_rfl) ?_;have i:(fun(v:World)=>v.cell? ⟨mb,11,none⟩=some (.slice a5 a1 a6)/\v.cell? ⟨cb,2,none⟩=some (.bool false)/\v.cell? ⟨tb,1,none⟩=some (.bool C)) a0.drew:=⟨ae,cl,bi⟩
             refine AE 0 i ?_;simp only[AD,AA];refine AE 1 i ?_;simp only[AD,AA];refine AE 2 i ?_;simp only[AD,AA];refine AE 3 i ?_;simp only[AD,AA];refine AE 4 i ?_;simp only[AD,AA];refine AE 5 i ?_;simp only[AD,AA];refine AE 6 i ?_;simp only[AD,AA];refine AE 7 i ?_;simp only[AD,AA];refine AE 8 i ?_;simp only[AD,AA];refine AE 9 i ?_;simp only[AD,AA];refine AE 10 i ?_;simp only[AD,AA];refine Ka 11 rfl (by kernel_rfl) (by kernel_rfl) (by kernel_rfl) (by kernel_rfl) (fun _ _ _ h=>h) (Or.inr ⟨by rfl,rfl⟩) i rfl ?rf11
             simp only[List.set_cons_succ,List.set_cons_zero];refine Ka 12 rfl (by kernel_rfl) (by kernel_rfl) (by kernel_rfl) (by kernel_rfl) (fun _ _ _ h=>h) (Or.inr ⟨by rfl,rfl⟩) i rfl ?rf12;simp only[List.set_cons_succ,List.set_cons_zero];refine AE 13 i ?_;simp only[AD,AA];refine AE 14 i ?_;simp only[AD,AA];clear i;refine Bj 15 (by kernel_rfl) rfl rfl (fun K j=>?_);go_simp;refine j _ _ (fun _=>ea _ (((Below.refl _ a0).alloc (AG _) _).drew)) ?_;clear j K;refine GH 16 (by kernel_rfl) rfl rfl rfl (fun K j=>?_);refine Ep OM (.tmp 141) (.tmp 152) rfl (base:=w3.heap.size) (n:=a1) (m:=1) (N:=a1+1) (v:=.slice a5 a1 a6) (src:=.slice (some ⟨a0.heap.size,0,none⟩) 1 1) (xs:=af.flatMap DH) (news:=DH (some hh,⟨r0,at_,SS,false&&C⟩)) rfl rfl (AV (fa.alloc _) ((Below.refl _ _).drew)) (Bf.Ap (c:=1) (cs:=DH (some hh,⟨r0,at_,SS,false&&C⟩)) (Ah.drew (Ah.new a0 240 _)) rfl (fun u hu=>by unfold DH hV AI.v at hu;simp at hu;rcases hu with rfl|rfl|rfl|rfl<;>rfl)) rfl (by unfold maxLen;omega) (by omega) (by have:=g0.out;simp;omega) ?_
             intro bj ck ab q1 q2 q3;have ag:=Hd (a8.Lb (((Below.refl _ a0).alloc (AG _) (.cells #[.int .i64 (r0:Nat),.int .i64 (at_:Nat),.pointer (some ⟨hh.h,0,none⟩),.bool (false&&C)] 240)).drew) (x:=(some hh,⟨r0,at_,SS,false&&C⟩)) (A:=bj) (c2:=ck) bz (by rw[bb.out];exact q1) q2);rw[bb.out]at ag;have az:Hid (Ah ab mb 192 _):=Hd (q2.Ap (Ah.drew (a8.Bz.Ap.alloc _)) (.inr (by decide)));have a2:ab.cell? ⟨mb,11,none⟩=some (.slice a5 af.length a6):=Ah.cell az 11;rw[bb.out]at a2;have yf:=Ah.frozen az 11;have yl:=az.lt
             have y2:ab.cell? ⟨cb,2,none⟩=some (.bool false):=Ah.cell (q2.Ap (Ah.drew (bw.alloc _)) (.inr (by decide))) 2;have y3:ab.cell? ⟨tb,1,none⟩=some (.bool C):=Ah.cell (q2.Ap (Ah.drew (d6.alloc _)) (.inr (by decide))) 1;have e0:Hid (Cq (ab.setCell ⟨mb,11,none⟩ (.slice bj (a1+1) ck)) (g.nt+1) P3 (some hh) SS):=Hd (bz.keeps ag.2 (by decide) (by decide));clear q1 q2 q3;refine j _ _ (fun _=>⟨a2,y2,y3⟩) ?_;clear j K;simp only[List.set_cons_succ,List.set_cons_zero];refine Bj 17 (by kernel_rfl) rfl rfl (fun K j=>?_);go_simp;refine j _ _ (fun _=>⟨a2,y2,y3⟩) ?_
             clear j K;refine Bj 18 (by kernel_rfl) rfl rfl (fun K j=>?_);go_simp;refine j _ _ (fun _=>⟨a2,y2,y3⟩) ?_;clear j K;refine Bj 19 (by kernel_rfl) rfl rfl (fun K j=>?_);go_simp;refine j _ _ (fun h=>absurd rfl h) ?_;clear j K;refine DU (by kernel_rfl) ?_ _;go_wp2_with fail
             go_roundg (lr-(a3+1))
             case measure=>have:=ba.out;omega
             case rel=>exact⟨a3+1,ch,_,P3,_,bn,_,Hd (by have:=ba.out;have:=b9.out;omega),by have:=b9.out;omega,by go_num,Hd ag.1,e7,Hd ((b8.trans c9).trans (ag.2.mono (AG _) (fun dr J=>by simp at J;rcases J with rfl|rfl<;>decide))),e0⟩
        ·obtain rfl:a3=lr:=by omega
         have i5:Hid (R=p3):=Hd (by have h:=dy.out;rw[List.drop_eq_nil_of_le (by rw[fi.out];exact AG _)]at h;unfold Gz.Fm at h;exact Option.some.inj h)
         rw[i5.out]at ak;go_wp2_with fail
         go_roundg (lc-(aa+1))
         case measure=>have:=fk.out;omega
         case rel=>exact⟨aa+1,g3,eg,P2,af,f5,p3,Hd (by have:=fk.out;have:=fj.out;omega),by have:=fj.out;omega,by go_num,ak,fq,Hd (ic.trans b8)⟩
     ·obtain rfl:aa=lc:=by omega
      have i6:Hid (p1=q):=Hd (by have h:=dz.out;rw[List.drop_eq_nil_of_le (by rw[e4.out];exact AG _)]at h;unfold Gz.F1 at h;exact Option.some.inj h)
      rw[i6.out]at c8;go_wp2_with fail
      go_end0
      exact⟨rfl,_,_,_,_,_,c8⟩
end
section
variable {w1 w3 wr:World} {mb fb n c:Nat} {v lv rv tlv uv cv bv av ev:Value} {g:Gz} {base:List Nat} {P:List AI} {S:List Nat} {ED:List (Option AI×Edge)} {FR:List (Value×List It)}
def Mk.XN(h:Mk w1 w3 wr mb fb n c v lv rv tlv uv cv bv av ev g base P S ED FR){p:AI}(j:P[i]?=some p){q:Option AI}{T:Nat}(I:Cq wr (g.nt+1) P q T) :
  () 157 #[p.v,hV q] wr fun e w'=>e=.returned (.bool ((S.getD i 0|||T) != S.getD i 0))/\Mk w1 w3 w' mb fb n c v lv rv tlv uv cv bv av ev g base P (S.set i (S.getD i 0|||T)) ED FR/\Aj (XP P) wr w':=by
 have C:=h.AM.at_ i p j;have hn:=h.AM.room p (mG j);cases q with
 | none=>
  have R:T=0:=I;subst R;refine(or_nil C).mono ?_;rintro e w' ⟨rfl,rfl⟩;rw[Nat.or_zero];have U:S.set i (S.getD i 0)=S:=by have l:=(sG.1 j).1;rw[h.AM.len]at l;rw[dG,eG l];exact List.set_getElem_self l
  rw[U];exact⟨by simp,h,Aj.refl _ _⟩
 | some s=>obtain⟨a,b,d⟩:=I;refine(Hk C a (by rw[b,hn])).mono ?_;rintro e w' ⟨rfl,J,o⟩;have t:Aj (XP P) wr w':=o.one (mG j);exact⟨rfl,h.Ly t (h.AM.ER j J o),t⟩
def Mk.Rs(h:Mk w1 w3 wr mb fb n c v lv rv tlv uv cv bv av ev g base P S ED FR){j:Nat}{p q:AI}(l:P[i]?=some p)(C:P[j]?=some q) :
  () 157 #[p.v,q.v] wr fun e w'=>e=.returned (.bool ((S.getD i 0|||S.getD j 0) != S.getD i 0))/\Mk w1 w3 w' mb fb n c v lv rv tlv uv cv bv av ev g base P (S.set i (S.getD i 0|||S.getD j 0)) ED FR/\Aj (XP P) wr w':=by
 have R:=h.AM.room p (mG l);have J:=h.AM.room q (mG C);refine(Hk (h.AM.at_ i p l) (h.AM.at_ j q C) (by rw[R,J])).mono ?_;rintro e w' ⟨rfl,I,o⟩;have t:Aj (XP P) wr w':=o.one (mG l);exact⟨rfl,h.Ly t (h.AM.ER l I o),t⟩
def Nw(mb:Nat)(f:Nat->Value):Act:={tmps:=#[.pointer (some ⟨mb,0,none⟩),f 1,f 2,f 3,f 4,f 5,f 6,f 7,f 8,f 9,f 10,f 11,f 12,f 13,f 14,f 15,f 16,f 17,f 18,f 19,f 20,f 21,f 22,f 23,f 24,f 25,f 26,f 27,f 28,f 29,f 30,f 31,f 32,f 33,f 34,f 35,f 36,f 37,f 38,f 39,f 40,f 41,f 42,f 43,f 44,f 45,f 46,f 47,f 48,f 49,f 50,f 51,f 52,f 53,f 54,f 55,f 56,f 57,f 58,f 59,f 60,f 61],defers:=[]}
def Xm(h:Mk w1 w3 wr mb fb n c v lv rv tlv uv cv bv av ev g base P S ED FR)(bz:∀e∈ED.map (·.2),e.dst<P.length/\e.at_<P.length)(hv:∃x0 x1 x2 x3,v=.agg #[x0,x1,x2,x3])(hP:P.length<=1000000)(hE:ED.length<=1000000){f:Nat}{Sf:List Nat}(hf:Gz.Hn (ED.map (·.2)) f S=some Sf) :
  () 114 #[(mb,0)] wr fun e w'=>e=.returned (.tuple #[])/\Mk w1 w3 w' mb fb n c v lv rv tlv uv cv bv av ev g base P Sf ED FR:=by
 obtain⟨x0,x1,x2,x3,rfl⟩:=hv;obtain⟨Ae,ce,cu⟩:=CG h.EK;obtain⟨Aa,R,ct⟩:=CG h.all;subst cu;subst ct;have HM:=Hd h;have HF:=Hd hf;have ch:=Hd bz;clear h hf bz;go_enter func114,ntmps114
 go_wp2;refine QM 0 (fun m a' w'=>∃S',Hid (Mk w1 w3 w' mb fb n c (.agg #[x0,x1,x2,x3]) lv rv tlv uv cv bv (.slice Aa P.length R) (.slice Ae ED.length ce) g base P S' ED FR)/\Hid (Gz.Hn (ED.map (·.2)) m S'=some Sf)/\a'=Nw mb (fun cz=>a'.tmps.getD cz undef)) rfl ?pass ?first
 case first=>intro HJ;have cj:=Hd HJ;clear HJ;refine wp_seq (wp_label ?_);refine cj f _ _ ?_;exact⟨S,HM,HF,rfl⟩
 case pass=>
  rintro m a' w2 ⟨S2,HS,bb,ha⟩;obtain⟨f,hf⟩:∃f,a'=Nw mb f:=⟨_,ha⟩
  clear ha;subst hf;unfold Nw;cases m with
  | zero=>have h:=bb.out;simp[Gz.Hn]at h
  | succ m=>
   obtain⟨A',m',c8,c6⟩:∃A' m',Gz.Fq (ED.map (·.2)) S2 false=(A',m')/\(if m' then Gz.Hn (ED.map (·.2)) m A'=some Sf else A'=Sf):=by
    have h:=bb.out;unfold Gz.Hn at h;split at h
    ·rename_i A' hA
     exact⟨A',true,hA,by rw[if_pos rfl];exact h⟩
    ·rename_i A' hA
     exact⟨A',false,hA,by rw[if_neg (by simp)];exact Option.some.inj h⟩
   have ck:=Hd c8;have bn:=Hd c6;have cc:w2.cell? (mb,11)=some (.slice Ae ED.length ce):=HS.cells.2.2.2.2.2.2.2.2.1;clear c8 c6 bb;obtain⟨ne,bi⟩:∃k,ED.length=k:=⟨_,rfl⟩
   obtain⟨T,bj⟩:∃k,P.length=k:=⟨_,rfl⟩
   have b8:=Hd bi;have b9:=Hd bj;rw[bi]at cc hE;rw[bj]at hP;clear bi bj;go_wp2_with fail
   go_loopw [2,10] (fun mo ii w'=>∃(k:Nat) (mm:Bool) (A:List Nat),k<=ne/\ii=.int .i64 k/\mo=.bool mm/\Hid (Mk w1 w3 w' mb fb n c (.agg #[x0,x1,x2,x3]) lv rv tlv uv cv bv (.slice Aa P.length R) (.slice Ae ED.length ce) g base P A ED FR)/\Hid (Gz.Fq ((ED.map (·.2)).drop k) A mm=(A',m'))) (fun _ ii _=>ne-(intOf ii).toNat)
   case atStart=>exact⟨0,false,S2,AZ _,rfl,rfl,HS,ck⟩
   case round=>
    obtain⟨k,mm,A,hk,rfl,rfl,HA,ba⟩:=hrel;rename World=>w4
    clear cc;by_cases cw:k<ne
    ·obtain⟨⟨q,⟨j,p,es,ef⟩⟩,hx⟩:∃x,ED[k]?=some x:=⟨_,eG (by rw[b8.out];exact cw)⟩
     have bl:=mG hx;obtain⟨bf,bh⟩:=ch ⟨j,p,es,ef⟩ (List.mem_map.2 ⟨_,bl,rfl⟩);simp only at bf bh;obtain⟨pd,c9⟩:∃an,P[j]?=some an:=⟨_,eG bf⟩
     obtain⟨pa,c7⟩:∃an,P[p]?=some an:=⟨_,eG bh⟩
     have bx:(ED.map (·.2)).drop k=⟨j,p,es,ef⟩::(ED.map (·.2)).drop (k+1):=IC (by rw[pG,hx];rfl);have az:=Hd ba;rw[bx]at az;have cf:=Hd (HA.Jq _ bl);have b0:=Hd c9;have ay:=Hd c7;obtain⟨au,c0⟩:=sG.1 hx;have e0:=CY DH 4 (fun _=>rfl) ED k 0 au (by omega);have e1:=CY DH 4 (fun _=>rfl) ED k 1 au (by omega);have e2:=CY DH 4 (fun _=>rfl) ED k 2 au (by omega);have e3:=CY DH 4 (fun _=>rfl) ED k 3 au (by omega);rw[c0]at e0 e1 e2 e3;obtain⟨be,cr⟩:∃be,Ae=some ⟨be,0,none⟩:=by
      rcases Bk HA.EK with⟨_,h0⟩|⟨b,c',h1,_⟩
      ·rw[b8.out]at h0;omega
      ·cases h1;exact⟨b,rfl⟩
     subst cr;obtain⟨l,cq⟩:∃l,Aa=some ⟨l,0,none⟩:=by
      rcases Bk HA.all with⟨_,h0⟩|⟨b,c',h1,_⟩
      ·omega
      ·cases h1;exact⟨b,rfl⟩
     subst cq;have ax:=HA.EK;have d0:w4.cell? ⟨be,k*4,none⟩=some (.int .i64 j):=by rw[Bg ax (k*4) (by omega)];rw[Nat.add_zero]at e0;exact e0
     have d1:w4.cell? ⟨be,k*4+1,none⟩=some (.int .i64 p):=by rw[Bg ax (k*4+1) (by omega)];exact e1
     have d2:w4.cell? ⟨be,k*4+2,none⟩=some (hV q):=by rw[Bg ax (k*4+2) (by omega)];exact e2
     have d3:w4.cell? ⟨be,k*4+3,none⟩=some (.bool ef):=by rw[Bg ax (k*4+3) (by omega)];exact e3
     have cm:Hid (∀y (A2:List Nat),Mk w1 w3 y mb fb n c (.agg #[x0,x1,x2,x3]) lv rv tlv uv cv bv (.slice (some ⟨l,0,none⟩) P.length R) (.slice (some ⟨be,0,none⟩) ED.length ce) g base P A2 ED FR->y.cell? (mb,10)=some (.slice (some ⟨l,0,none⟩) T R)/\y.cell? ⟨l,j,none⟩=some (.pointer (pd.h,0))/\y.cell? ⟨l,p,none⟩=some (.pointer (pa.h,0))):=Hd (fun y A2 J=>by
      refine⟨by rw[<-b9.out];exact J.cells.2.2.2.2.2.2.2.1,?_,?_⟩
      ·rw[Bg J.all j (by omega),pG,b0.out];rfl
      ·rw[Bg J.all p (by omega),pG,ay.out];rfl)
     obtain⟨I,bk⟩:∃I,hV q=.pointer I:=by cases q<;>exact⟨_,rfl⟩
     rw[bk]at d2;have cl:=Hd bk;clear hx bl c9 c7 bx au c0 e0 e1 e2 e3 ax bk ba;rw[b9.out]at bf bh;go_upto_region 4 with fail
     have ab:Hid (Ah (w4.alloc (.cells #[j,p,.pointer I,.bool ef] 240)) w4.heap.size 240 #[j,p,.pointer I,.bool ef]):=Hd (Ah.new w4 240 _);have ai:=Hd (HA.later (DX w4 (.cells #[j,p,.pointer I,.bool ef] 240)));have cg:=Hd (cf.later (DX w4 (.cells #[j,p,.pointer I,.bool ef] 240)));generalize w4.alloc (.cells #[j,p,.pointer I,.bool ef] 240)=w5 at *;generalize w4.heap.size=o at *;clear d0 d1 d2 d3;have ag:Hid (∀y (A2:List Nat),Mk w1 w3 y mb fb n c (.agg #[x0,x1,x2,x3]) lv rv tlv uv cv bv (.slice (some ⟨l,0,none⟩) P.length R) (.slice (some ⟨be,0,none⟩) ED.length ce) g base P A2 ED FR->Ah y o 240 #[j,p,.pointer I,.bool ef]->(fun(v:World)=>v.cell? (mb,10)=some (.slice (some ⟨l,0,none⟩) T R)/\v.cell? (o,0)=some (.int .i64 j)/\v.cell? (o,1)=some (.int .i64 p)/\v.cell? (o,2)=some (.pointer I)/\v.cell? ⟨l,j,none⟩=some (.pointer (pd.h,0))/\v.cell? ⟨l,p,none⟩=some (.pointer (pa.h,0))) y):=Hd (fun y A2 J hb=>by
      obtain⟨a1,a2,a3⟩:=cm y A2 J;exact⟨a1,hb.cell 0,hb.cell 1,hb.cell 2,a2,a3⟩)
     have b3:=Hd (fun Y (J:Below w5 w5 Y)=>ag Y _ (ai.later J) (ab.below J ab.lt));have ah:Hid (Below w5 w5 w5.drew):=Hd ((Below.refl _ w5).drew);obtain⟨qq,bw,ca,cb⟩:=PV ((ai.later ah).AM.at_ p pa ay);have bo:=Hd bw;unfold AI.v at bo;have bt:=Hd (And.intro ca cb);have d5:(j:Int)<(T:Int):=by omega
     have d4:(p:Int)<(T:Int):=by omega
     clear bw ca cb
     go_region_held3 (fun(v:World)=>v.cell? (mb,10)=some (.slice (some ⟨l,0,none⟩) T R)/\v.cell? (o,0)=some (.int .i64 j)/\v.cell? (o,1)=some (.int .i64 p)/\v.cell? (o,2)=some (.pointer I)/\v.cell? ⟨l,j,none⟩=some (.pointer (pd.h,0))/\v.cell? ⟨l,p,none⟩=some (.pointer (pa.h,0)))
      (first|exact b3 _ ah)
      (first|(go_at_call 155;refine bo.mono ?_;rintro e C ⟨rfl,rfl⟩))
     by_cases hz:A.getD p 0=0
     ·have cx:qq<0:=bt.1 hz
      have a5:Hid (Gz.Fq ((ED.map (·.2)).drop (k+1)) A mm=(A',m')):=Hd (by have h:=az.out;unfold Gz.Fq at h;rw[if_pos hz]at h;exact h)
      clear hz;go_wp2_with fail
      go_roundw
      case rel=>exact⟨k+1,mm,A,by omega,by go_num,rfl,Hd (ai.later ah),a5⟩
      case measure=>simp[intOf];omega
     ·have cx:¬(qq<0):=by have:=bt.2 hz;omega
      obtain⟨X0,b5⟩:∃x,A.getD j 0=x:=⟨_,rfl⟩
      obtain⟨X1,b6⟩:∃x,X0|||es=x:=⟨_,rfl⟩
      obtain⟨X2,bc⟩:∃x,X1|||(if j=p then X1 else A.getD p 0)=x:=⟨_,rfl⟩
      obtain⟨b1,bd⟩:∃b,(X1 != X0)=b:=⟨_,rfl⟩
      have bq:Hid (ef=false->Gz.Fq ((ED.map (·.2)).drop (k+1)) (A.set j X1) (b1||mm)=(A',m')):=Hd (fun e=>by have h:=az.out;subst e;unfold Gz.Fq at h;rw[if_neg hz]at h;simp only[Bool.false_eq_true,if_false]at h;rw[b5,b6,bd]at h;exact h)
      have br:Hid (ef=true->Gz.Fq ((ED.map (·.2)).drop (k+1)) ((A.set j X1).set j X2) ((X2 != X1)||(b1||mm))=(A',m')):=Hd (fun e=>by have h:=az.out;subst e;unfold Gz.Fq at h;rw[if_neg hz]at h;simp only[if_true]at h;rw[b5,b6,bc,bd]at h;rw[List.set_set];exact h)
      have b4:Hid ((A.set j X1).getD j 0|||(A.set j X1).getD p 0=X2/\(A.set j X1).getD j 0=X1):=Hd (by
       have hl:j<A.length:=by have h:=ai.AM.len;have h2:=b9.out;omega
       have h1:(A.set j X1).getD j 0=X1:=by rw[dG,tG hl];rfl
       refine⟨?_,h1⟩;rw[h1,<-bc];congr 1;by_cases he:j=p
       ·rw[if_pos he,<-he];exact h1
       ·rw[if_neg he,dG,uG he,<-dG])
      have bp:Hid (() 157 #[(pd.h,0),.pointer I] w5.drew.drew fun e w'=>e=.returned (.bool b1)/\Mk w1 w3 w' mb fb n c (.agg #[x0,x1,x2,x3]) lv rv tlv uv cv bv (.slice (some ⟨l,0,none⟩) P.length R) (.slice (some ⟨be,0,none⟩) ED.length ce) g base P (A.set j X1) ED FR/\Aj (XP P) w5.drew.drew w'):=Hd (by have h:=(ai.later (ah.drew)).XN b0 (cg.later (ah.drew));rw[cl.out,b5]at h;rw[b6,bd]at h;exact h)
      have bm:Hid (∀(cs:Array Value),∀b,Ah w5.drew.drew b 240 cs->¬XP P b):=Hd (fun cs b hb=>by rintro⟨an,hp,rfl⟩;obtain⟨bu,hT⟩:=(ai.later (ah.drew)).AM.mem hp;exact Ah.Bh hb hT.words (by decide) rfl)
      have ab:Hid (Ah w5.drew o 240 #[j,p,.pointer I,.bool ef]):=Hd ab.drew;have b3:=Hd (fun Y (J:Below w5.drew.heap.size w5.drew Y)=>ag Y _ ((ai.later ah).later J) (ab.below J ab.lt));clear b5 b6 bc hz;generalize w5.drew=w5 at *;cases b1 with
      | true=>
       go_upto_region 5 with fail
       refine Eb 14 (fun(v:World)=>v.cell? (mb,10)=some (.slice (some ⟨l,0,none⟩) T R)/\v.cell? (o,0)=some (.int .i64 j)/\v.cell? (o,1)=some (.int .i64 p)/\v.cell? (o,2)=some (.pointer I)/\v.cell? ⟨l,j,none⟩=some (.pointer (pd.h,0))/\v.cell? ⟨l,p,none⟩=some (.pointer (pa.h,0))) (by kernel_rfl) ?_;have i:(fun(v:World)=>v.cell? (mb,10)=some (.slice (some ⟨l,0,none⟩) T R)/\v.cell? (o,0)=some (.int .i64 j)/\v.cell? (o,1)=some (.int .i64 p)/\v.cell? (o,2)=some (.pointer I)/\v.cell? ⟨l,j,none⟩=some (.pointer (pd.h,0))/\v.cell? ⟨l,p,none⟩=some (.pointer (pa.h,0))) w5.drew:=b3 _ ((Below.refl _ w5).drew)
       refine AE 0 i ?_;simp only[AD,AA];refine AE 1 i ?_;simp only[AD,AA];refine AE 2 i ?_;simp only[AD,AA];refine AE 3 i ?_;simp only[AD,AA];refine AE 4 i ?_;simp only[AD,AA];refine AE 5 i ?_;simp only[AD,AA];refine AE 6 i ?_;simp only[AD,AA];refine AE 7 i ?_;simp only[AD,AA];refine AE 8 i ?_;simp only[AD,AA];refine AE 9 i ?_;simp only[AD,AA];clear i;refine Bj 10 (by kernel_rfl) rfl rfl (fun K t=>?_);go_simp;refine bp.mono ?_;rintro e C ⟨rfl,aw,ar⟩;have ad:=Hd aw
       have al:=ab.below ((Below.refl _ w5).drew) ab.lt;have a0:=Hd (ar.Ap al (fun e=>bm _ _ al e));clear ar aw al;have af:=Hd (fun Y (J:Below C C Y)=>ag Y _ (ad.later J) (a0.below J a0.lt));refine t _ _ (fun _=>af C (Below.refl _ _)) ?_;clear t K;have i:(fun(v:World)=>v.cell? (mb,10)=some (.slice (some ⟨l,0,none⟩) T R)/\v.cell? (o,0)=some (.int .i64 j)/\v.cell? (o,1)=some (.int .i64 p)/\v.cell? (o,2)=some (.pointer I)/\v.cell? ⟨l,j,none⟩=some (.pointer (pd.h,0))/\v.cell? ⟨l,p,none⟩=some (.pointer (pa.h,0))) C:=af C (Below.refl _ _)
       refine AE 11 i ?_;simp only[AD,AA];refine Ka 12 rfl (by kernel_rfl) (by kernel_rfl) (by kernel_rfl) (by kernel_rfl) (fun _ _ _ h=>h) (Or.inr ⟨by rfl,rfl⟩) i rfl ?rc12;simp only[List.set_cons_succ,List.set_cons_zero];refine AE 13 i ?_;simp only[AD,AA];clear i;refine Bj 14 (by kernel_rfl) rfl rfl (fun K t=>?_);go_simp;refine t _ _ (fun h=>absurd rfl h) ?_;clear t K;refine DU (by kernel_rfl) ?_ _;have e3:C.cell? (o,3)=some (.bool ef):=Ah.cell a0 3;have cn:=a0.lt;cases ef with
       | false=>
        have a5:=Hd (bq rfl);go_wp2_with fail
        go_roundw
        case rel=>exact⟨k+1,true,_,by omega,by go_num,rfl,ad,a5⟩
        case measure=>simp[intOf];omega
       | true=>
        have ak:=Hd (br rfl);have ae:=Hd ((ad.later ((Below.refl _ C).drew)).Rs b0 ay);have ao:Hid (∀(cs:Array Value),∀b,Ah C.drew b 240 cs->¬XP P b):=Hd (fun cs b hb=>by rintro⟨an,hp,rfl⟩;obtain⟨bu,hT⟩:=(ad.later ((Below.refl _ C).drew)).AM.mem hp;exact Ah.Bh hb hT.words (by decide) rfl)
        rw[b4.1,b4.2]at ae;obtain⟨b2,aq⟩:∃b,(X2 != X1)=b:=⟨_,rfl⟩
        unfold AI.v at ae;have aj:=Hd ae;rw[aq]at aj ak;clear ae aq;cases b2 with
        | true=>
         have a5:=ak;go_upto_region 7 with fail
         refine Eb 20 (fun(v:World)=>v.cell? (mb,10)=some (.slice (some ⟨l,0,none⟩) T R)/\v.cell? (o,0)=some (.int .i64 j)/\v.cell? (o,1)=some (.int .i64 p)/\v.cell? (o,2)=some (.pointer I)/\v.cell? ⟨l,j,none⟩=some (.pointer (pd.h,0))/\v.cell? ⟨l,p,none⟩=some (.pointer (pa.h,0))) (by kernel_rfl) ?_;have i:(fun(v:World)=>v.cell? (mb,10)=some (.slice (some ⟨l,0,none⟩) T R)/\v.cell? (o,0)=some (.int .i64 j)/\v.cell? (o,1)=some (.int .i64 p)/\v.cell? (o,2)=some (.pointer I)/\v.cell? ⟨l,j,none⟩=some (.pointer (pd.h,0))/\v.cell? ⟨l,p,none⟩=some (.pointer (pa.h,0))) C.drew:=af _ ((Below.refl _ C).drew)
         refine AE 0 i ?_;simp only[AD,AA];refine AE 1 i ?_;simp only[AD,AA];refine AE 2 i ?_;simp only[AD,AA];refine AE 3 i ?_;simp only[AD,AA];refine AE 4 i ?_;simp only[AD,AA];refine AE 5 i ?_;simp only[AD,AA];refine AE 6 i ?_;simp only[AD,AA];refine AE 7 i ?_;simp only[AD,AA];refine AE 8 i ?_;simp only[AD,AA];refine AE 9 i ?_;simp only[AD,AA];refine AE 10 i ?_;simp only[AD,AA];refine AE 11 i ?_;simp only[AD,AA];refine AE 12 i ?_;simp only[AD,AA];refine AE 13 i ?_;simp only[AD,AA]
         refine AE 14 i ?_;simp only[AD,AA];refine AE 15 i ?_;simp only[AD,AA];clear i;refine Bj 16 (by kernel_rfl) rfl rfl (fun K t=>?_);go_simp;refine aj.mono ?_;rintro e U ⟨rfl,aa,a9⟩;have a6:=Hd aa;have a4:=a0.below ((Below.refl _ C).drew) a0.lt;have a8:=Hd (a9.Ap a4 (fun e=>ao _ _ a4 e));clear a9 aa a4;have a7:=Hd (fun Y (J:Below U U Y)=>ag Y _ (a6.later J) (a8.below J a8.lt));refine t _ _ (fun _=>a7 U (Below.refl _ _)) ?_;clear t K;have i:(fun(v:World)=>v.cell? (mb,10)=some (.slice (some ⟨l,0,none⟩) T R)/\v.cell? (o,0)=some (.int .i64 j)/\v.cell? (o,1)=some (.int .i64 p)/\v.cell? (o,2)=some (.pointer I)/\v.cell? ⟨l,j,none⟩=some (.pointer (pd.h,0))/\v.cell? ⟨l,p,none⟩=some (.pointer (pa.h,0))) U:=a7 U (Below.refl _ _)
         refine AE 17 i ?_;simp only[AD,AA];refine Ka 18 rfl (by kernel_rfl) (by kernel_rfl) (by kernel_rfl) (by kernel_rfl) (fun _ _ _ h=>h) (Or.inr ⟨by rfl,rfl⟩) i rfl ?re18;simp only[List.set_cons_succ,List.set_cons_zero];refine AE 19 i ?_;simp only[AD,AA];clear i;refine Bj 20 (by kernel_rfl) rfl rfl (fun K t=>?_);go_simp;refine t _ _ (fun h=>absurd rfl h) ?_;clear t K;refine DU (by kernel_rfl) ?_ _;go_wp2_with fail
         go_roundw
         case rel=>exact⟨k+1,true,_,by omega,by go_num,rfl,a6,a5⟩
         case measure=>simp[intOf];omega
        | false=>
         have a5:=ak;go_upto_region 7 with fail
         refine Eb 20 (fun(v:World)=>v.cell? (mb,10)=some (.slice (some ⟨l,0,none⟩) T R)/\v.cell? (o,0)=some (.int .i64 j)/\v.cell? (o,1)=some (.int .i64 p)/\v.cell? (o,2)=some (.pointer I)/\v.cell? ⟨l,j,none⟩=some (.pointer (pd.h,0))/\v.cell? ⟨l,p,none⟩=some (.pointer (pa.h,0))) (by kernel_rfl) ?_;have i:(fun(v:World)=>v.cell? (mb,10)=some (.slice (some ⟨l,0,none⟩) T R)/\v.cell? (o,0)=some (.int .i64 j)/\v.cell? (o,1)=some (.int .i64 p)/\v.cell? (o,2)=some (.pointer I)/\v.cell? ⟨l,j,none⟩=some (.pointer (pd.h,0))/\v.cell? ⟨l,p,none⟩=some (.pointer (pa.h,0))) C.drew:=af _ ((Below.refl _ C).drew)
         refine AE 0 i ?_;simp only[AD,AA];refine AE 1 i ?_;simp only[AD,AA];refine AE 2 i ?_;simp only[AD,AA];refine AE 3 i ?_;simp only[AD,AA];refine AE 4 i ?_;simp only[AD,AA];refine AE 5 i ?_;simp only[AD,AA];refine AE 6 i ?_;simp only[AD,AA];refine AE 7 i ?_;simp only[AD,AA];refine AE 8 i ?_;simp only[AD,AA];refine AE 9 i ?_;simp only[AD,AA];refine AE 10 i ?_;simp only[AD,AA];refine AE 11 i ?_;simp only[AD,AA];refine AE 12 i ?_;simp only[AD,AA];refine AE 13 i ?_;simp only[AD,AA]
         refine AE 14 i ?_;simp only[AD,AA];refine AE 15 i ?_;simp only[AD,AA];clear i;refine Bj 16 (by kernel_rfl) rfl rfl (fun K t=>?_);go_simp;refine aj.mono ?_;rintro e U ⟨rfl,aa,a9⟩;have a6:=Hd aa;have a4:=a0.below ((Below.refl _ C).drew) a0.lt;have a8:=Hd (a9.Ap a4 (fun e=>ao _ _ a4 e));clear a9 aa a4;have a7:=Hd (fun Y (J:Below U U Y)=>ag Y _ (a6.later J) (a8.below J a8.lt));refine t _ _ (fun _=>a7 U (Below.refl _ _)) ?_;clear t K;have i:(fun(v:World)=>v.cell? (mb,10)=some (.slice (some ⟨l,0,none⟩) T R)/\v.cell? (o,0)=some (.int .i64 j)/\v.cell? (o,1)=some (.int .i64 p)/\v.cell? (o,2)=some (.pointer I)/\v.cell? ⟨l,j,none⟩=some (.pointer (pd.h,0))/\v.cell? ⟨l,p,none⟩=some (.pointer (pa.h,0))) U:=a7 U (Below.refl _ _)
         refine AE 17 i ?_;simp only[AD,AA];refine AE 18 i ?_;simp only[AD,AA];refine AE 19 i ?_;simp only[AD,AA];clear i;refine Bj 20 (by kernel_rfl) rfl rfl (fun K t=>?_);go_simp;refine t _ _ (fun h=>absurd rfl h) ?_;clear t K;refine DU (by kernel_rfl) ?_ _;go_wp2_with fail
         go_roundw
         case rel=>exact⟨k+1,true,_,by omega,by go_num,rfl,a6,a5⟩
         case measure=>simp[intOf];omega
      | false=>
       go_upto_region 5 with fail
       refine Eb 14 (fun(v:World)=>v.cell? (mb,10)=some (.slice (some ⟨l,0,none⟩) T R)/\v.cell? (o,0)=some (.int .i64 j)/\v.cell? (o,1)=some (.int .i64 p)/\v.cell? (o,2)=some (.pointer I)/\v.cell? ⟨l,j,none⟩=some (.pointer (pd.h,0))/\v.cell? ⟨l,p,none⟩=some (.pointer (pa.h,0))) (by kernel_rfl) ?_;have i:(fun(v:World)=>v.cell? (mb,10)=some (.slice (some ⟨l,0,none⟩) T R)/\v.cell? (o,0)=some (.int .i64 j)/\v.cell? (o,1)=some (.int .i64 p)/\v.cell? (o,2)=some (.pointer I)/\v.cell? ⟨l,j,none⟩=some (.pointer (pd.h,0))/\v.cell? ⟨l,p,none⟩=some (.pointer (pa.h,0))) w5.drew:=b3 _ ((Below.refl _ w5).drew)
       refine AE 0 i ?_;simp only[AD,AA];refine AE 1 i ?_;simp only[AD,AA];refine AE 2 i ?_;simp only[AD,AA];refine AE 3 i ?_;simp only[AD,AA];refine AE 4 i ?_;simp only[AD,AA];refine AE 5 i ?_;simp only[AD,AA];refine AE 6 i ?_;simp only[AD,AA];refine AE 7 i ?_;simp only[AD,AA];refine AE 8 i ?_;simp only[AD,AA];refine AE 9 i ?_;simp only[AD,AA];clear i;refine Bj 10 (by kernel_rfl) rfl rfl (fun K t=>?_);go_simp;refine bp.mono ?_;rintro e C ⟨rfl,aw,ar⟩;have ad:=Hd aw
       have al:=ab.below ((Below.refl _ w5).drew) ab.lt;have a0:=Hd (ar.Ap al (fun e=>bm _ _ al e));clear ar aw al;have af:=Hd (fun Y (J:Below C C Y)=>ag Y _ (ad.later J) (a0.below J a0.lt));refine t _ _ (fun _=>af C (Below.refl _ _)) ?_;clear t K;have i:(fun(v:World)=>v.cell? (mb,10)=some (.slice (some ⟨l,0,none⟩) T R)/\v.cell? (o,0)=some (.int .i64 j)/\v.cell? (o,1)=some (.int .i64 p)/\v.cell? (o,2)=some (.pointer I)/\v.cell? ⟨l,j,none⟩=some (.pointer (pd.h,0))/\v.cell? ⟨l,p,none⟩=some (.pointer (pa.h,0))) C:=af C (Below.refl _ _)
       refine AE 11 i ?_;simp only[AD,AA];refine AE 12 i ?_;simp only[AD,AA];refine AE 13 i ?_;simp only[AD,AA];clear i;refine Bj 14 (by kernel_rfl) rfl rfl (fun K t=>?_);go_simp;refine t _ _ (fun h=>absurd rfl h) ?_;clear t K;refine DU (by kernel_rfl) ?_ _;have e3:C.cell? (o,3)=some (.bool ef):=Ah.cell a0 3;have cn:=a0.lt;cases ef with
       | false=>
        have a5:=Hd (bq rfl);go_wp2_with fail
        go_roundw
        case rel=>exact⟨k+1,mm,_,by omega,by go_num,rfl,ad,a5⟩
        case measure=>simp[intOf];omega
       | true=>
        have ak:=Hd (br rfl);have ae:=Hd ((ad.later ((Below.refl _ C).drew)).Rs b0 ay);have ao:Hid (∀(cs:Array Value),∀b,Ah C.drew b 240 cs->¬XP P b):=Hd (fun cs b hb=>by rintro⟨an,hp,rfl⟩;obtain⟨bu,hT⟩:=(ad.later ((Below.refl _ C).drew)).AM.mem hp;exact Ah.Bh hb hT.words (by decide) rfl)
        rw[b4.1,b4.2]at ae;obtain⟨b2,aq⟩:∃b,(X2 != X1)=b:=⟨_,rfl⟩
        unfold AI.v at ae;have aj:=Hd ae;rw[aq]at aj ak;clear ae aq;cases b2 with
        | true=>
         have a5:=ak;go_upto_region 7 with fail
         refine Eb 20 (fun(v:World)=>v.cell? (mb,10)=some (.slice (some ⟨l,0,none⟩) T R)/\v.cell? (o,0)=some (.int .i64 j)/\v.cell? (o,1)=some (.int .i64 p)/\v.cell? (o,2)=some (.pointer I)/\v.cell? ⟨l,j,none⟩=some (.pointer (pd.h,0))/\v.cell? ⟨l,p,none⟩=some (.pointer (pa.h,0))) (by kernel_rfl) ?_;have i:(fun(v:World)=>v.cell? (mb,10)=some (.slice (some ⟨l,0,none⟩) T R)/\v.cell? (o,0)=some (.int .i64 j)/\v.cell? (o,1)=some (.int .i64 p)/\v.cell? (o,2)=some (.pointer I)/\v.cell? ⟨l,j,none⟩=some (.pointer (pd.h,0))/\v.cell? ⟨l,p,none⟩=some (.pointer (pa.h,0))) C.drew:=af _ ((Below.refl _ C).drew)
         refine AE 0 i ?_;simp only[AD,AA];refine AE 1 i ?_;simp only[AD,AA];refine AE 2 i ?_;simp only[AD,AA];refine AE 3 i ?_;simp only[AD,AA];refine AE 4 i ?_;simp only[AD,AA];refine AE 5 i ?_;simp only[AD,AA];refine AE 6 i ?_;simp only[AD,AA];refine AE 7 i ?_;simp only[AD,AA];refine AE 8 i ?_;simp only[AD,AA];refine AE 9 i ?_;simp only[AD,AA];refine AE 10 i ?_;simp only[AD,AA];refine AE 11 i ?_;simp only[AD,AA];refine AE 12 i ?_;simp only[AD,AA];refine AE 13 i ?_;simp only[AD,AA]
         refine AE 14 i ?_;simp only[AD,AA];refine AE 15 i ?_;simp only[AD,AA];clear i;refine Bj 16 (by kernel_rfl) rfl rfl (fun K t=>?_);go_simp;refine aj.mono ?_;rintro e U ⟨rfl,aa,a9⟩;have a6:=Hd aa;have a4:=a0.below ((Below.refl _ C).drew) a0.lt;have a8:=Hd (a9.Ap a4 (fun e=>ao _ _ a4 e));clear a9 aa a4;have a7:=Hd (fun Y (J:Below U U Y)=>ag Y _ (a6.later J) (a8.below J a8.lt));refine t _ _ (fun _=>a7 U (Below.refl _ _)) ?_;clear t K;have i:(fun(v:World)=>v.cell? (mb,10)=some (.slice (some ⟨l,0,none⟩) T R)/\v.cell? (o,0)=some (.int .i64 j)/\v.cell? (o,1)=some (.int .i64 p)/\v.cell? (o,2)=some (.pointer I)/\v.cell? ⟨l,j,none⟩=some (.pointer (pd.h,0))/\v.cell? ⟨l,p,none⟩=some (.pointer (pa.h,0))) U:=a7 U (Below.refl _ _)
         refine AE 17 i ?_;simp only[AD,AA];refine Ka 18 rfl (by kernel_rfl) (by kernel_rfl) (by kernel_rfl) (by kernel_rfl) (fun _ _ _ h=>h) (Or.inr ⟨by rfl,rfl⟩) i rfl ?rk18;simp only[List.set_cons_succ,List.set_cons_zero];refine AE 19 i ?_;simp only[AD,AA];clear i;refine Bj 20 (by kernel_rfl) rfl rfl (fun K t=>?_);go_simp;refine t _ _ (fun h=>absurd rfl h) ?_;clear t K;refine DU (by kernel_rfl) ?_ _;go_wp2_with fail
         go_roundw
         case rel=>exact⟨k+1,true,_,by omega,by go_num,rfl,a6,a5⟩
         case measure=>simp[intOf];omega
        | false=>
         have a5:=ak;go_upto_region 7 with fail
         refine Eb 20 (fun(v:World)=>v.cell? (mb,10)=some (.slice (some ⟨l,0,none⟩) T R)/\v.cell? (o,0)=some (.int .i64 j)/\v.cell? (o,1)=some (.int .i64 p)/\v.cell? (o,2)=some (.pointer I)/\v.cell? ⟨l,j,none⟩=some (.pointer (pd.h,0))/\v.cell? ⟨l,p,none⟩=some (.pointer (pa.h,0))) (by kernel_rfl) ?_;have i:(fun(v:World)=>v.cell? (mb,10)=some (.slice (some ⟨l,0,none⟩) T R)/\v.cell? (o,0)=some (.int .i64 j)/\v.cell? (o,1)=some (.int .i64 p)/\v.cell? (o,2)=some (.pointer I)/\v.cell? ⟨l,j,none⟩=some (.pointer (pd.h,0))/\v.cell? ⟨l,p,none⟩=some (.pointer (pa.h,0))) C.drew:=af _ ((Below.refl _ C).drew)
         refine AE 0 i ?_;simp only[AD,AA];refine AE 1 i ?_;simp only[AD,AA];refine AE 2 i ?_;simp only[AD,AA];refine AE 3 i ?_;simp only[AD,AA];refine AE 4 i ?_;simp only[AD,AA];refine AE 5 i ?_;simp only[AD,AA];refine AE 6 i ?_;simp only[AD,AA];refine AE 7 i ?_;simp only[AD,AA];refine AE 8 i ?_;simp only[AD,AA];refine AE 9 i ?_;simp only[AD,AA];refine AE 10 i ?_;simp only[AD,AA];refine AE 11 i ?_;simp only[AD,AA];refine AE 12 i ?_;simp only[AD,AA];refine AE 13 i ?_;simp only[AD,AA]
         refine AE 14 i ?_;simp only[AD,AA];refine AE 15 i ?_;simp only[AD,AA];clear i;refine Bj 16 (by kernel_rfl) rfl rfl (fun K t=>?_);go_simp;refine aj.mono ?_;rintro e U ⟨rfl,aa,a9⟩;have a6:=Hd aa;have a4:=a0.below ((Below.refl _ C).drew) a0.lt;have a8:=Hd (a9.Ap a4 (fun e=>ao _ _ a4 e));clear a9 aa a4;have a7:=Hd (fun Y (J:Below U U Y)=>ag Y _ (a6.later J) (a8.below J a8.lt));refine t _ _ (fun _=>a7 U (Below.refl _ _)) ?_;clear t K;have i:(fun(v:World)=>v.cell? (mb,10)=some (.slice (some ⟨l,0,none⟩) T R)/\v.cell? (o,0)=some (.int .i64 j)/\v.cell? (o,1)=some (.int .i64 p)/\v.cell? (o,2)=some (.pointer I)/\v.cell? ⟨l,j,none⟩=some (.pointer (pd.h,0))/\v.cell? ⟨l,p,none⟩=some (.pointer (pa.h,0))) U:=a7 U (Below.refl _ _)
         refine AE 17 i ?_;simp only[AD,AA];refine AE 18 i ?_;simp only[AD,AA];refine AE 19 i ?_;simp only[AD,AA];clear i;refine Bj 20 (by kernel_rfl) rfl rfl (fun K t=>?_);go_simp;refine t _ _ (fun h=>absurd rfl h) ?_;clear t K;refine DU (by kernel_rfl) ?_ _;go_wp2_with fail
         go_roundw
         case rel=>exact⟨k+1,mm,_,by omega,by go_num,rfl,a6,a5⟩
         case measure=>simp[intOf];omega
    ·obtain rfl:k=ne:=by omega
     have cd:Hid (A=A'/\mm=m'):=Hd (by have h:=ba.out;rw[List.drop_eq_nil_of_le (by rw[lM,b8.out];exact AG _)]at h;unfold Gz.Fq at h;exact⟨congrArg Prod.fst h,congrArg Prod.snd h⟩)
     obtain⟨cp,cy⟩:=cd.out;subst cp;subst cy;cases mm with
     | true=>
      have b7:Hid (Gz.Hn (ED.map (·.2)) m A=some Sf):=Hd (by have h:=bn.out;rwa [if_pos rfl]at h);go_wp2_with fail
      go_step3
      refine RF ?_;exact⟨m,Nat.lt_succ_self m,A,HA,b7,rfl⟩
     | false=>
      have b7:Hid (A=Sf):=Hd (by have h:=bn.out;rwa [if_neg (by simp)]at h);rw[b7.out]at HA;go_wp2_with fail
      simp only[Exit.jump]
      go_end0
      exact⟨rfl,HA⟩
end
def jN:El Tryz.prog 76 129 2 32:=El.of (z:=.agg #[.int .i64 0,.slice none 0 0]) underlying76 (by kernel_rfl) rfl (by decide)
def FI(i:List It)(s:Nat):Option Nat:=(i.reverse.find? (fun p=>p.1==s)).map (·.2)
def Ug(i:List It)(x b s:Nat):(if s=x then some b else FI i s)=FI (i++[(x,b)]) s:=by
 unfold FI;rw[List.reverse_append,List.reverse_singleton,List.singleton_append,List.find?_cons];by_cases h:s=x
 ·subst h
  rw[if_pos rfl];simp
 ·have j:((x,b).1==s)=false:=beq_false_of_ne (fun e=>h e.symm)
  rw[if_neg h,j]
def Vg{i:List It}{s j:Nat}(h:FI i s=some j):∃p∈i,p.2=j:=by unfold FI at h;obtain⟨p,l,e⟩:=Option.map_eq_some_iff.1 h;exact⟨p,List.mem_reverse.1 (List.mem_of_find?_eq_some l),e⟩
theorem Qv(g:Gz):∀(K:List It) (x:It) (b:Nat),g.CU (K++[x]) b=g.CU K b++(if x.2=(g.right x.1).length then[(x.1,b+K.length)] else[])
 | [],x,b=>by
  show g.CU [x] b=_;unfold Gz.CU Gz.CU;split
  ·simp
  ·simp
 | y::K,x,b=>by
  rw[List.cons_append];unfold Gz.CU;rw[Qv g K x (b+1)];have e:b+1+K.length=b+(y::K).length:=by simp;omega
  rw[e];split
  ·rw[List.cons_append]
  ·rfl
theorem NX{g:Gz}:∀(K:List It) (b:Nat),∀p∈g.CU K b,p.2<b+K.length
 | [],b,p,i=>by unfold Gz.CU at i;cases i
 | y::K,b,p,i=>by
  unfold Gz.CU at i;split at i
  ·rcases List.mem_cons.1 i with rfl|h
   ·simp
   ·have:=NX K (b+1) p h
    simp;omega
  ·have:=NX K (b+1) p i
   simp;omega
def Hx(z:Value×(Nat×Nat)):List Value:=[.int .i64 (z.2.1:Nat),z.1]
structure Gu(w wr:World)(m:Nat)(ov:Value)(Z:List (Value×(Nat×Nat))):Prop where
 below:Below w w wr
 row:wr.ownsRow w 129 2 ov Z.length (Z.flatMap Hx)
 own:∀z∈Z,wr.ownsRow w 3 1 z.1 (Bt m z.2.2).length ((Bt m z.2.2).map AO)
variable{Z:List (Value×(Nat×Nat))}
def Gu.start(w:World)(m:Nat):Gu w w m (.slice none 0 0) []:=⟨Below.refl _ _,⟨rfl,.inl ⟨rfl,rfl⟩⟩,fun z i=>by cases i⟩
def Gu.later{w wr w2:World}{m:Nat}{j:Value}(h:Gu w wr m j Z)(i:Below wr wr w2):Gu w w2 m j Z:=
 ⟨h.below.trans (i.mono h.below.size),AV h.row i,fun z l=>AV (h.own z l) i⟩
def Gu.more{w w2 w3:World}{m:Nat}{p:Value}(h:Gu w w2 m p Z){tv:Value}{S:Nat}(l:w2.ownsRow w 3 1 tv (Bt m S).length ((Bt m S).map AO)){A:Option Addr}{c:Nat}
  (t:w3.ownsRow w 129 2 (.slice A (Z.length+1) c) (Z.length+1) (Z.flatMap Hx++Hx (tv,(k,S)))) (j:AJ w [129] w2 w3):Gu w w3 m (.slice A (Z.length+1) c) (Z++[(tv,(k,S))]):=by
 refine⟨h.below.trans (j.below h.below.size),?_,fun z o=>?_⟩
 ·rw[List.flatMap_append,BO]
  simpa using t
 ·rcases mA.1 o with i|i
  ·exact j.own (h.own z i) (.inr (by decide))
  ·rw[mS.1 i]
   exact j.own l (.inr (by decide))
section
variable {w1 w3 w:World} {mb fb n c:Nat} {v lv rv tlv uv cv bv av ev:Value} {g:Gz} {V:List (Value×Value)} {L E:List (List It)} {T:List (List (Nat×Bool))} {CC:List (List AX)} {base:List Nat} {P:List AI} {S:List Nat} {ED:List (Option AI×Edge)} {FR:List (Value×List It)}
def MK(w:World)(m:Nat)(l:List (Nat×Nat))(e:Ending)(w':World):Prop:=∃A c2 Z,e=.returned (.slice A l.length c2)/\Z.map (·.2)=l/\Gu w w' m (.slice A l.length c2) Z
def eD(hs:NM w1 w3 mb fb v lv rv tlv uv cv g V L E T CC)(ar:Small L base)(h:Mk w1 w3 w mb fb n c v lv rv tlv uv cv bv av ev g base P S ED FR){st:Nat}{K:List It}(hK:L[st]?=some K)(c8:∀x∈K,x.1<=g.R.length/\x.2<=1000000)(hF:FR[st]?=some (fv,F))(c7:∀f∈F,f.1<=g.R.length/\f.2<P.length)(ds:F.length<=100000)(hP:P.length<=100000)(b7:base.getD st 0+K.length<=P.length) :
  () 115 #[(mb,0),st] w (MK w (g.nt+1) (g.IN S (g.CU K (base.getD st 0)++F))):=by
 have en:=hs.gn.fit.nr;obtain⟨AT,cT,AN,cN,AR,cR,rfl,-,-⟩:=hs.gn.open_;obtain⟨⟨z0,z1,z2,z3⟩,z4,z5,z6,z7,z8,z9,bk,ea,d6⟩:=h.cells;have hA:=hs.Ge.later h.below;obtain⟨⟨AL,cL,rfl,ee,hc⟩,⟨ei,ej⟩,hit,-,ep⟩:=hA;have d2:=(sG.1 hK).1;obtain⟨xv,bh⟩:∃x,V[st]?=some x:=⟨_,eG (by omega)⟩
 obtain⟨bL,oL,rfl,ec,c0,c1⟩:=hc st xv bh;obtain⟨⟨Ai,ci,d3,cm⟩,e4,dz⟩:=hit st xv K bh hK;rw[d3]at c0;obtain⟨o,b6⟩:∃x,base[st]?=some x:=⟨_,eG (by rw[ar.1];exact d2)⟩
 have b8:base.getD st 0=o:=by rw[dG,b6];rfl
 rw[b8]at b7;obtain⟨⟨AB,cB,dv,cj⟩,_,_⟩:BF w bv base:=Hh h.F7 (by rw[ar.1];omega);obtain⟨bb,ob,dq,cb,ck⟩:=cj st o b6;subst dv;subst dq;rw[b8];obtain⟨br,d4,cr,_,_,e0,_,_,_⟩:=hs.Hq.Lx (k:=0) (by omega);subst e0;have dm:Hid (∀y,Below w w y->∀k,k<=g.R.length->∃Ad c2,y.cell? (br,d4+k)=some (.slice Ad (g.right k).length c2)/\br<y.heap.size):=Hd (fun y J k hk=>by
  obtain⟨b',o',c',Ad,c2,e,⟨du,cd⟩,dw,_⟩:=hs.Hq.Lx (k:=k) (by omega);cases e
  have cl:=h.AF.next (Aj.AK J);exact⟨Ad,c2,(cl.cell cd du.no _).trans dw,AW cd cl.size⟩)
 obtain⟨Aa,ca,dt⟩:=CG h.all;subst dt;have eo:st<n:=by have h1:=(sG.1 hF).1;have h2:=h.fin.len;omega
 obtain⟨Af,cf,cn⟩:=CG (h.fin.own st _ hF);simp only at cn;subst cn;have zf:w.cell? (fb,st)=some (.slice Af F.length cf):=by rw[Bg h.fin.row st (by omega),pG,hF];rfl
 have c6:=(BQ h.fin.row fb rfl).1;have ay:=h.Ap.lt;have dh:Hid (CX w (.slice Af F.length cf) F):=Hd (CX.own (h.fin.own st _ hF) (by omega));have HM:=Hd h;obtain⟨lk,a4⟩:∃k,K.length=k:=⟨_,rfl⟩
 obtain⟨lf,b9⟩:∃k,F.length=k:=⟨_,rfl⟩
 obtain⟨np,bd⟩:∃k,P.length=k:=⟨_,rfl⟩
 obtain⟨nb,bc⟩:∃k,base.length=k:=⟨_,rfl⟩
 obtain⟨nV,cw⟩:∃k,V.length=k:=⟨_,rfl⟩
 have al:=Hd a4;have bp:=Hd b9;have ag:=Hd bd;have er:st<nb:=by rw[<-bc,ar.1];exact d2
 rw[a4]at c0 b7;rw[b9]at zf ds;rw[bd]at hP b7 bk;rw[bc]at z9;rw[cw]at z4;have HZ:Hid (∀y,Below w w y->y.cell? (mb,9)=some (.slice (bb,ob) nb cB)/\y.cell? (bb,ob+st)=some (.int .i64 (o:Nat))/\y.cell? (mb,5)=some (.slice (br,d4) (g.R.length+1) cr)/\y.cell? (mb,12)=some (.slice (fb,0) n c)/\y.cell? (fb,st)=some (.slice Af lf cf)/\y.cell? (mb,10)=some (.slice Aa np ca)/\mb<y.heap.size/\bb<y.heap.size/\fb<y.heap.size):=Hd (fun y J=>by have ew:=J.size;exact⟨(J.cell (p:=⟨mb,9,none⟩) ay).trans z9,(J.cell (p:=⟨bb,ob+st,none⟩) cb).trans ck,(J.cell (p:=⟨mb,5,none⟩) ay).trans z5,(J.cell (p:=⟨mb,12,none⟩) ay).trans d6,(J.cell (p:=⟨fb,st,none⟩) c6).trans zf,(J.cell (p:=⟨mb,10,none⟩) ay).trans bk,by omega,by omega,by omega⟩)
 have d8:Hid (∀y,Below w w y->∀k x,K[k]?=some x->∃b off,Ai=some ⟨b,off,none⟩/\b<y.heap.size/\y.cell? ⟨b,off+k*2,none⟩=some (.int .i64 x.1)/\y.cell? ⟨b,off+k*2+1,none⟩=some (.int .i64 x.2)):=Hd (fun y J k x hx=>by obtain⟨b,off,hA,a5,e1,e2⟩:=cm k x hx;exact⟨b,off,hA,AW a5 J.size,(J.cell (p:=⟨b,off+k*2,none⟩) a5).trans e1,(J.cell (p:=⟨b,off+k*2+1,none⟩) a5).trans e2⟩)
 have dc:=Hd c8;have bn:=Hd c7;have et:(st:Int)<(nV:Int):=by omega
 have es:(st:Int)<(nb:Int):=by omega
 have eu:(st:Int)<(n:Int):=by omega
 have ek:∀y:World,(Instr.makeMap 245 none).run Tryz.prog y=.ok (.map (some y.heap.size)) (y.alloc (.map #[] 0)):=fun y=>by kernel_rfl
 have bq:Hid (Below w w (w.alloc (.map #[] 0))/\Gq (w.alloc (.map #[] 0)) w.heap.size 0 (.map [])):=Hd ⟨(Below.refl _ w).alloc (AG _) _,World.ownsMap_made (H:=Unit) w Tryz.prog 3 (plainElem Tryz.prog 3)⟩;clear hs ar h hK c8 hF c7 cm hit hc bh ck b6 b8 dz d3 e4 cj z0 z1 z2 z3 z5 z6 z7 z8 z9 ea a4 b9 bd bc cw cb c1 bk d6 zf c6;unfold MK;go_enter func115,ntmps115
 go_wp2_with fail
 generalize cu:w.heap.size=t at *;have a3:=Hd cu;generalize w.alloc (.map #[] 0)=W0 at *;clear cu;go_loopw [24] (fun ii wr=>∃(i nD:Nat) (D:DataW Unit),i<=lk/\ii=.int .i64 i/\nD<=i/\Hid (Below t w wr)/\Hid (Gq wr t nD D)/\Hid (DZ D (FI (g.CU (K.take i) o)))) (fun ii _=>lk-(intOf ii).toNat)
 case atStart=>exact⟨0,0,_,AZ _,rfl,AG _,Hd bq.1,Hd bq.2,Hd (DZ.start.congr fun s=>rfl)⟩
 case round=>
  obtain⟨i,nD,D,hi,rfl,el,HB,HI,HD⟩:=hrel;rename World=>I
  obtain⟨k9,kb,k5,ab,kf,aa,lm,lb,ad⟩:=HZ I HB;by_cases a5:i<lk
  ·obtain⟨⟨j,l⟩,hx⟩:∃x,K[i]?=some x:=⟨_,eG (by rw[al.out];exact a5)⟩
   obtain⟨bi,oi,rfl,cc,d0,d1⟩:=d8 I HB i _ hx;obtain⟨au,aw⟩:=dc _ (mG hx);simp only at d0 d1 au aw;obtain⟨Ar,eb,kr,lr⟩:=dm I HB j au;obtain⟨rl,bf⟩:∃k,(g.right j).length=k:=⟨_,rfl⟩
   rw[bf]at kr;have ah:=Hd (Ah.new I 194 #[j,l]);have bm:Hid (Below t w (I.alloc (.cells #[j,l] 194))):=Hd (HB.alloc (by have:=HB.size;rw[a3.out]at this;exact this) _);have bo:Hid (Gq (I.alloc (.cells #[j,l] 194)) t nD D):=Hd (HI.alloc _);have bu:Hid (g.CU (K.take (i+1)) o=g.CU (K.take i) o++(if l=rl then[(j,o+i)] else[])):=Hd (by
    have e:K.take (i+1)=K.take i++[(j,l)]:=by rw[List.take_add_one,hx];rfl
    rw[e,Qv,List.length_take];simp only;rw[bf,show min i K.length=i by rw[al.out];omega])
   have e6:(j:Int)<((g.R.length+1:Nat):Int):=by omega
   have e7:(j:Int)<(g.R.length:Int)+1:=by omega
   clear hx bf;go_upto_region 5 with fail
   have x0:(I.alloc (.cells #[j,l] 194)).cell? (I,0)=some (.int .i64 j):=Ah.cell ah 0;have x1:(I.alloc (.cells #[j,l] 194)).cell? (I,1)=some (.int .i64 l):=Ah.cell ah 1;have xl:=ah.lt;go_quiet (fail)
   have bw:Hid (Ah ((I.alloc (.cells #[j,l] 194)).drewN nq) I.heap.size 194 #[j,l]):=Hd (ah.drewN nq);have b0:Hid (Below t w ((I.alloc (.cells #[j,l] 194)).drewN nq)):=Hd (bm.trans ⟨rfl,rfl,rfl,AG _,fun _ _=>rfl⟩);have b4:Hid (Gq ((I.alloc (.cells #[j,l] 194)).drewN nq) t nD D):=Hd bo;generalize (I.alloc (.cells #[j,l] 194)).drewN nq=w5 at *;generalize I.heap.size=bx at *;clear x0 x1 xl k9 kb k5 ab kf aa kr lr e6 e7 d0 d1 cc HI bo bm ah lm lb ad
   by_cases aj:l=rl
   ·have dy:((l:Int)==(rl:Int))=true:=by rw[aj];simp
    obtain⟨k9,kb,k5,ab,kf,aa,lm,lb,ad⟩:=HZ w5 b0;have x0:w5.cell? (bx,0)=some (.int .i64 j):=Ah.cell bw 0;have xl:=bw.lt;obtain⟨w6,cz,cs,cp⟩:=My (w:=w5.drew) b4 (by omega) (s:=j) (c:=o+i) (by omega) (by omega);have cg:Aj (·=t) w5.drew w6:=Aj.of_map cp;have e5:IntKind.i64.wrap ((o:Int)+(i:Int))=((o+i:Nat):Int):=by rw[IntKind.wrap_i64];omega
    have af:Hid (DZ (D.put (Co j) (.lit (.int .i64 ((o+i:Nat):Int)))) (FI (g.CU (K.take (i+1)) o))):=Hd (by
     refine(HD.next b4.isMap j (o+i)).congr fun s=>?_
     rw[bu.out,if_pos aj];exact Ug _ _ _ _)
    have d7:Hid (Below t w w6):=Hd (by have hd:Below t w w5.drew:=b0.drew;exact hd.trans (cg.below (by have:=hd.size;have:=a3.out;omega) (fun k hk e=>by have e2:k=t:=e;omega)))
    have df:=Hd cs;rw[Int.natCast_add]at cz e5;clear cs cp cg aj;go_upto_region 6 with fail
    refine Eb 12 (fun(v:World)=>v.cell? (bx,0)=some (.int .i64 j)/\v.cell? (mb,9)=some (.slice (bb,ob) nb cB)/\v.cell? (bb,ob+st)=some (.int .i64 o)) (by kernel_rfl) ?_;have R:(fun(v:World)=>v.cell? (bx,0)=some (.int .i64 j)/\v.cell? (mb,9)=some (.slice (bb,ob) nb cB)/\v.cell? (bb,ob+st)=some (.int .i64 o)) w5.drew:=⟨x0,k9,kb⟩
    refine AE 0 R ?_;simp only[AD,AA];refine AE 1 R ?_;simp only[AD,AA];refine AE 2 R ?_;simp only[AD,AA];refine AE 3 R ?_;simp only[AD,AA];refine AE 4 R ?_;simp only[AD,AA];refine AE 5 R ?_;simp only[AD,AA];refine AE 6 R ?_;simp only[AD,AA];refine AE 7 R ?_;simp only[AD,AA];refine AE 8 R ?_;simp only[AD,AA];refine AE 9 R ?_;simp only[AD,AA];refine AE 10 R ?_;simp only[AD,AA];refine AE 11 R ?_;simp only[AD,AA];clear R;refine Bj 12 (by kernel_rfl) rfl rfl (fun K hK=>?_)
    go_simp;refine hK _ _ (fun h=>absurd rfl h) ?_;clear hK K;refine DU (by kernel_rfl) ?_ _;go_wp2_with fail
    go_roundw
    case rel=>exact⟨i+1,nD+1,_,by omega,by go_num,by omega,d7,df,af⟩
    case measure=>simp[intOf];omega
   ·have dy:((l:Int)==(rl:Int))=false:=by rw[bN];omega
    have af:Hid (DZ D (FI (g.CU (K.take (i+1)) o))):=Hd (by have h:=HD.out;rw[bu.out,if_neg aj,List.append_nil];exact h)
    clear aj;go_wp2_with fail
    go_roundw
    case rel=>exact⟨i+1,nD,D,by omega,by go_num,by omega,b0,b4,af⟩
    case measure=>simp[intOf];omega
  ·obtain rfl:i=lk:=by omega
   have d9:Hid (DZ D (FI (g.CU K o++F.take 0))):=Hd (by have h:=HD.out;rw[Dh (by rw[al.out];exact AG _)]at h;rw[List.take_zero,List.append_nil];exact h)
   clear HD;go_wp2_with fail
   clear k9 kb k5 ab kf aa lm lb ad;go_loopw [62] (fun ii wr=>∃(U nD:Nat) (D:DataW Unit),U<=lf/\ii=.int .i64 U/\nD<=i+U/\Hid (Below t w wr)/\Hid (Gq wr t nD D)/\Hid (DZ D (FI (g.CU K o++F.take U)))) (fun ii _=>lf-(intOf ii).toNat)
   case atStart=>exact⟨0,nD,D,AZ _,rfl,by omega,HB,HI,d9⟩
   case round=>
    obtain⟨U,bj,D2,ef,rfl,em,ae,b2,b1⟩:=hrel;rename World=>w8
    obtain⟨k9,kb,k5,ab,kf,aa,lm,lb,ad⟩:=HZ w8 ae;by_cases a5:U<lf
    ·obtain⟨⟨j,l⟩,hx⟩:∃x,F[U]?=some x:=⟨_,eG (by rw[bp.out];exact a5)⟩
     obtain⟨au,aw⟩:=bn _ (mG hx);obtain⟨⟨A',c',e,hc⟩,-,-⟩:=dh.later (by rw[a3.out];exact ae);have e2:Af=A':=by cases e;rfl
     subst e2;obtain⟨bi,oi,rfl,cc,d0,d1⟩:=hc U _ hx;simp only at d0 d1 au aw;rw[ag.out]at aw;have a8:Hid (Below t w (w8.alloc (.cells #[j,l] 248))):=Hd (ae.alloc (by have:=ae.size;rw[a3.out]at this;exact this) _);obtain⟨w9,cz,ct,cq⟩:=My (w:=w8.alloc (.cells #[j,l] 248)) (b2.alloc _) (by omega) (s:=j) (c:=l) (by omega) (by omega);have ch:Aj (·=t) (w8.alloc (.cells #[j,l] 248)) w9:=Aj.of_map cq;have af:Hid (DZ (D2.put (Co j) (.lit (.int .i64 (l:Int)))) (FI (g.CU K o++F.take (U+1)))):=Hd (by
      refine(b1.next b2.isMap j l).congr fun s=>?_
      have e3:F.take (U+1)=F.take U++[(j,l)]:=by rw[List.take_add_one,hx];rfl
      rw[e3,<-List.append_assoc];exact Ug _ _ _ _)
     have a7:Hid (Below t w w9):=Hd (a8.trans (ch.below (by have:=a8.size;have:=a3.out;omega) (fun k hk e=>by have e2:k=t:=e;omega)));have dg:=Hd ct;clear hx hc e ct cq ch;go_wp2_with fail
     go_roundw
     case rel=>exact⟨U+1,bj+1,_,by omega,by go_num,by omega,a7,dg,af⟩
     case measure=>simp[intOf];omega
    ·obtain rfl:U=lf:=by omega
     obtain⟨ps,aq⟩:∃e9,g.CU K o++F=e9:=⟨_,rfl⟩
     have da:Hid (DZ D2 (FI ps)):=Hd (by have h:=b1.out;rw[Dh (by rw[bp.out];exact AG _),aq]at h;exact h)
     have di:Hid (∀p∈ps,p.2<np):=Hd (fun p hp=>by
      rw[<-aq]at hp;rcases mA.1 hp with h1|h1
      ·have:=NX K o p h1
       rw[al.out]at this;omega
      ·have:=(bn p h1).2
       rw[ag.out]at this;exact this)
     have dj:=Hd aq;clear aq b1;go_wp2_with fail
     clear k9 kb k5 ab kf aa lm lb ad;have dd:Hid (Gu w w8 (g.nt+1) (.slice none 0 0) []):=Hd ((Gu.start w (g.nt+1)).later (by rw[a3.out];exact ae));go_loopw [10,77] (fun ov kk wr=>∃(k:Nat) (Z:List (Value×(Nat×Nat))),k<=g.R.length+1/\kk=.int .i64 k/\Hid (Gu w wr (g.nt+1) ov Z)/\Hid (Gq wr t bj D2)/\Hid (Z.map (·.2)=(List.range k).filterMap fun k=>(ps.reverse.find? (fun p=>p.1==k)).map fun p=>(k,S.getD p.2 0))/\Z.length<=k) (fun _ kk _=>g.R.length+1-(intOf kk).toNat)
     case atStart=>exact⟨0,[],AZ _,rfl,dd,b2,Hd rfl,AG _⟩
     case round=>
      obtain⟨k,Z,hk,rfl,HL,b3,b5,e8⟩:=hrel;rename World=>w9
      have a8:Hid (Below t w w9):=Hd (by have h:=HL.below;rw[a3.out]at h;exact h);obtain⟨k9,kb,k5,ab,kf,aa,lm,lb,ad⟩:=HZ w9 a8;obtain⟨Ao,co,cx⟩:=CG HL.row;obtain⟨zl,ax⟩:∃x,Z.length=x:=⟨_,rfl⟩
      have a9:=Hd ax;rw[ax]at e8 cx;subst cx;by_cases a5:k<g.R.length+1
      ·have a4:=MQ b3 da (s:=k) (by omega)
       have bt:Hid ((List.range (k+1)).filterMap (fun k=>(ps.reverse.find? (fun p=>p.1==k)).map fun p=>(k,S.getD p.2 0))=(List.range k).filterMap (fun k=>(ps.reverse.find? (fun p=>p.1==k)).map fun p=>(k,S.getD p.2 0))++((ps.reverse.find? (fun p=>p.1==k)).map fun p=>(k,S.getD p.2 0)).toList):=Hd (by rw[List.range_succ,List.filterMap_append];congr 1)
       have eh:(k:Int)<(g.R.length:Int)+1:=by omega
       clear ax;cases a0:FI ps k with
       | none=>
        rw[a0]at a4;simp only[Option.getD_none,Option.isSome_none]at a4;have an:Hid (Z.map (·.2)=(List.range (k+1)).filterMap fun k=>(ps.reverse.find? (fun p=>p.1==k)).map fun p=>(k,S.getD p.2 0)):=Hd (by rw[bt.out,b5.out];unfold FI at a0;rw[Option.map_eq_none_iff]at a0;rw[a0];simp)
        clear a0;go_wp2_with fail
        go_roundw
        case rel=>exact⟨k+1,Z,by omega,by go_num,HL,b3,an,by rw[a9.out];omega⟩
        case measure=>simp[intOf];omega
       | some a6=>
        rw[a0]at a4;simp only[Option.getD_some,Option.isSome_some]at a4;obtain⟨pm,cy,dx⟩:=Vg a0;have hj:a6<np:=by have:=di pm cy;omega
        have an:Hid ((List.range (k+1)).filterMap (fun k=>(ps.reverse.find? (fun p=>p.1==k)).map fun p=>(k,S.getD p.2 0))=Z.map (·.2)++[(k,S.getD a6 0)]):=Hd (by rw[bt.out,b5.out];unfold FI at a0;obtain⟨y,J,e⟩:=Option.map_eq_some_iff.1 a0;rw[J,<-e];rfl)
        clear a0 cy dx;obtain⟨pp,ao⟩:∃x,P[a6]?=some x:=⟨_,eG (by rw[ag.out];exact hj)⟩
        have ai:=HM.later (w2:=w9) (by rw[a3.out];exact a8);have dp:=Hd (ai.AM.at_ a6 pp ao);have dn:=Hd (ai.AM.room pp (mG ao));obtain⟨ba,dr⟩:∃ba,Aa=some ⟨ba,0,none⟩:=by
         rcases Bk ai.all with⟨_,h0⟩|⟨b,c',h1,_⟩
         ·rw[ag.out]at h0;omega
         ·cases h1;exact⟨b,rfl⟩
        subst dr;have kp:w9.cell? ⟨ba,a6,none⟩=some (.pointer (pp.h,0)):=by rw[Bg ai.all a6 (by rw[ag.out];omega),pG,ao];rfl
        have eg:(a6:Int)<(np:Int):=by omega
        have ak:=Hd (SH dp);rw[dn.out]at ak;unfold AI.v at ak;obtain⟨C,c9⟩:∃x,S.getD a6 0=x:=⟨_,rfl⟩
        rw[c9]at ak an;have ed:=KE (g.nt+1) C;have ey:zl<=1000:=by omega
        clear ao ai c9;go_wp2_with (first
         | (
           go_at_call 159;refine ak.mono ?_;rintro e az ⟨ez,rfl,a1,a2,rfl,be,hb10⟩
           rw[lM]at be ⊢;have dk:=Hd be;have a7:=Hd hb10;clear be hb10)
         | (
           at_builtin;refine DY jN (.tmp 87) (.tmp 98) rfl rfl (base:=w.heap.size) (n:=zl) (m:=1) (N:=zl+1) (xs:=Z.flatMap Hx) (news:=Hx (.slice a1 (Bt (g.nt+1) C).length a2,(k,C))) rfl rfl (AV (by have h:=(HL.later a7).row;rw[a9.out]at h;exact h) (AH az (.cells #[.int .i64 k,.slice a1 (Bt (g.nt+1) C).length a2] 129))) (Bf.Ap (c:=1) (cs:=Hx (.slice a1 (Bt (g.nt+1) C).length a2,(k,C))) (Ah.new az 129 _) rfl (fun u hu=>by unfold Hx at hu;simp at hu;rcases hu with rfl|rfl<;>rfl)) rfl (by unfold maxLen;omega) (by omega) (by have h1:=a8.size;have h2:=a7.size;have h3:=HL.below.size;simp;omega) ?_
           intro bl bz d5 q1 q2 q3;have de:Hid (Gu w d5 (g.nt+1) (.slice bl (zl+1) bz) (Z++[(.slice a1 (Bt (g.nt+1) C).length a2,(k,C))])):=Hd (by
            have hh:=(HL.later a7).later (AH az (.cells #[.int .i64 k,.slice a1 (Bt (g.nt+1) C).length a2] 129));have ht:(az.alloc (.cells #[.int .i64 k,.slice a1 (Bt (g.nt+1) C).length a2] 129)).ownsRow w 3 1 (.slice a1 (Bt (g.nt+1) C).length a2) (Bt (g.nt+1) C).length ((Bt (g.nt+1) C).map AO):=by have h0:=EL (base':=w.heap.size) (dk.alloc (.cells #[.int .i64 k,.slice a1 (Bt (g.nt+1) C).length a2] 129)) HL.below.size;exact h0
            have hm:=hh.more (tv:=.slice a1 (Bt (g.nt+1) C).length a2) (k:=k) (S:=C) ht (A:=bl) (c:=bz) (by rw[a9.out];exact q1) q2;rw[a9.out]at hm;exact hm)
           have db:Hid (Gq d5 t bj D2):=Hd (q2.map (((Aj.AK (X:=fun _=>False) a7).map b3 id).alloc _));clear q1 q2 q3))
        go_roundw
        case rel=>exact⟨k+1,_,by omega,by go_num,de,db,Hd (by rw[an.out,Bw];rfl),by rw[BO,a9.out];simp;omega⟩
        case measure=>simp[intOf];omega
      ·obtain rfl:k=g.R.length+1:=by omega
       clear ax;go_wp2_with fail
       go_ret;have hl:g.IN S (g.CU K o++F)=Z.map (·.2):=by rw[dj.out,b5.out];rfl
       rw[hl,lM,a9.out];exact⟨Ao,co,Z,rfl,rfl,HL⟩
end
end Go.Proofs.YthaacmablcpdfaaGreatDoor
