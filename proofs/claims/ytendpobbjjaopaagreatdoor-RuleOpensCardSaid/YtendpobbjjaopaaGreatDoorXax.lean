/- . -/
import Derived.Test.YtendpobbjjaopaaGreatDoorXav
import Derived.Laws.ResultCell
set_option linter.all false
set_option maxRecDepth 100000
set_option maxHeartbeats 16000000
namespace Go.Proofs.YtendpobbjjaopaaGreatDoor
open Go.RowKit
open Value renaming slice→oG,int→oH
open Option renaming some→oM,none→oN
open IntKind renaming i64→oO
open Obj renaming cells→oP
open Ending renaming returned→oQ
open World renaming cell?→oT
open Go renaming World→oU,Value→oV
variable{w w':oU}{v:oV}{g:Gz}{E L:List (List It)}{B Em n0:Nat}{A C:List Nat}{T:List (List (Nat×Bool))}{CC:List (List AV)}{ed:List Edge}{X:Nat->Prop}
def Oh(w:oU)(m:Nat)(l:List (List (Nat×Nat)))(e:Ending)(w':oU):Prop:=∃i,e=oQ (.tuple #[i,oH oO 0])/\Ny w.heap.size w' m i l/\Below w w w'
def fO(hg:GN w v g){f f2 f3:Nat}(ha:g.KD f=oM (L,E)){FF:List (List It)}(hi:I7 g L E f2 f3 Em C T CC n0 FF ed A) :
  () 91 #[v] w (Oh w (g.nt+1) (g.Ij A L (Gz.Cf L 0) FF)):=by
 obtain⟨n,hn⟩:∃n,L.length=n:=⟨_,rfl⟩
 have fa:n<=100000:=by rw[<-hn];exact hi.Cm.2.1
 have f9:=fun y=>Js (P:=Tryz.prog) (t:=211) (e:=278) (z:=oG oN 0 0) (bytes:=24) Tryz.underlying211 nZ rfl (l:=((n:Nat):Int)) (n:=n) rfl nX nX y
 have ct:Hid (∀y,Below w w y->() 90 #[v] y fun e w'=>∃lv V,e=oQ (.tuple #[lv,oH oO 0])/\FE w' lv V L E/\Below y y w'):=Hd (fun y hy=>Wg (hg.later hy) ha);have HG:=Hd (fun y (hy:Below w w y)=>hg.later hy);have J:=Hd hi;have HN:=Hd hn;obtain⟨AT,cT,AN,cN,AR,cR,rfl,-,-⟩:=hg.open_;have br:=Hd (Ah.new w 47 #[oG AT g.nt cT,oG AN g.nn cN,oG AR g.R.length cR,g.s]);have b3:=Hd (AG w (oP #[oG AT g.nt cT,oG AN g.nn cN,oG AR g.R.length cR,g.s] 47));clear hg ha hi hn
 unfold Oh;go_enter Tryz.func91,Tryz.ntmps91
 go_upto_region 4 with
  (
   go_at_call 90;refine(ct _ b3).mono ?_;rintro e R ⟨lv,V,rfl,hA,be⟩
   have al:=Hd (b3.trans (be.mono b3.size));have HA:=Hd hA;have a5:=Hd (br.below be br.lt);obtain⟨⟨AL,cL,f7,fs,-⟩,⟨du,-⟩,-,-,-⟩:=id hA;subst f7;have g0:=Ah.cell a5 0;have g1:=Ah.cell a5 1;have g2:=Ah.cell a5 2;have g3:=Ah.cell a5 3;simp at g0 g1 g2 g3;have da:V.length=n:=by rw[<-du,HN.out]
   rw[da]at HA;rw[da];clear hA be)
 generalize ft:w.heap.size=gb at a5 g0 g1 g2 g3 ⊢;refine DY 7 (fun(v:oU)=>oT v (gb,0)=oM (oG AT g.nt cT)/\oT v (gb,1)=oM (oG AN g.nn cN)/\oT v (gb,2)=oM (oG AR g.R.length cR)/\oT v (gb,3)=oM (oH oO g.s)) nZ ?_;have a0:(fun(v:oU)=>oT v (gb,0)=oM (oG AT g.nt cT)/\oT v (gb,1)=oM (oG AN g.nn cN)/\oT v (gb,2)=oM (oG AR g.R.length cR)/\oT v (gb,3)=oM (oH oO g.s)) R.drew:=⟨g0,g1,g2,g3⟩
 refine AF 0 a0 ?_;simp only[AD,AE];refine AF 1 a0 ?_;simp only[AD,AE];refine AF 2 a0 ?_;simp only[AD,AE];refine AF 3 a0 ?_;simp only[AD,AE];clear a0;refine Bm 4 nZ rfl rfl (fun K o=>?_);go_simp;have bo:=Hd (Ah.new R 278 (Array.replicate n (oG oN 0 0)));have b4:Hid (Below R R (R.alloc (oP (Array.replicate n (oG oN 0 0)) 278))):=Hd (AG R _);have af:=Hd (a5.below b4 a5.lt);have a0:(fun(v:oU)=>oT v (gb,0)=oM (oG AT g.nt cT)/\oT v (gb,1)=oM (oG AN g.nn cN)/\oT v (gb,2)=oM (oG AR g.R.length cR)/\oT v (gb,3)=oM (oH oO g.s)) (R.alloc (oP (Array.replicate n (oG oN 0 0)) 278)).drew:=⟨Ah.cell af 0,Ah.cell af 1,Ah.cell af 2,Ah.cell af 3⟩
 refine o _ _ (fun _=>a0) ?_;clear o K;refine AF 5 a0 ?_;simp only[AD,AE];generalize dk:R.heap.size=fb at *;have bq:=Hd dk;clear dk;generalize R.alloc (oP (Array.replicate n (oG oN 0 0)) 278)=w2 at *;refine Bm 6 nZ rfl rfl (fun K o=>?_);go_simp;have bz:=Hd (Ah.new w2 217 (Et (.agg #[oG AT g.nt cT,oG AN g.nn cN,oG AR g.R.length cR,g.s]) (oG AL n cL) (oG oN 0 0) (oG oN 0 0) (oG oN 0 0) (oG oN 0 0) (oG oN 0 0) (oG oN 0 0) (oG oN 0 0) (oG (fb,0) n n)))
 clear a0;have an:=Hd (af.alloc (oP #[oG AT g.nt cT,oG AN g.nn cN,oG AR g.R.length cR,g.s,oG AL n cL,oG oN 0 0,oG oN 0 0,oG oN 0 0,oG oN 0 0,oG oN 0 0,oG oN 0 0,oG oN 0 0,oG (fb,0) n n] 217));refine o _ _ (fun _=>⟨Ah.cell an 0,Ah.cell an 1,Ah.cell an 2,Ah.cell an 3⟩) ?_;clear o K;refine Bm 7 nZ rfl rfl (fun K o=>?_);go_simp;refine o _ _ (fun h=>absurd rfl h) ?_;clear o K;refine D0 nZ ?_ _;have cr:Hid (Below fb R (w2.alloc (oP (Et (.agg #[oG AT g.nt cT,oG AN g.nn cN,oG AR g.R.length cR,g.s]) (oG AL n cL) (oG oN 0 0) (oG oN 0 0) (oG oN 0 0) (oG oN 0 0) (oG oN 0 0) (oG oN 0 0) (oG oN 0 0) (oG (fb,0) n n)) 217))):=Hd (b4.alloc (by have:=b4.size;rw[bq.out]at this;exact this) _)
 have bp:=Hd (bo.alloc (oP (Et (.agg #[oG AT g.nt cT,oG AN g.nn cN,oG AR g.R.length cR,g.s]) (oG AL n cL) (oG oN 0 0) (oG oN 0 0) (oG oN 0 0) (oG oN 0 0) (oG oN 0 0) (oG oN 0 0) (oG oN 0 0) (oG (fb,0) n n)) 217));have a3:Hid (R.heap.size<=fb/\fb<w2.heap.size):=Hd ⟨by rw[bq.out];exact Ay _,bo.lt⟩;generalize w2.heap.size=I at *;go_wp2_with
  (
   go_at_call 130
   refine(fS (HG R al) (by rw[bq.out];exact cr.drew) (AW a3.1 (Nat.le_of_lt a3.2)) bz.drew J.first J.Oa J.comes).mono ?_;rintro e w3 hp;obtain⟨rfl,rv,ad,uv,cv,dc,e0,df,fh,dg⟩:=hp.nf (HG R al) HA ⟨AW a3.1 (Nat.le_of_lt a3.2),bz.drew.lt⟩ ⟨a3.1,bp.drew.lt⟩ J.Mu J.comes;have au:=Hd e0;have bu:=Hd (Mk.start (n:=n) (g:=g) dc ⟨_,_,_,_,rfl⟩ df (AW a3.1 (Nat.le_of_lt a3.2)) a3.1 (dg.Aj bp.drew (by have:=a3.2;intro e;omega)) fa)
   clear hp dc e0 df fh dg)
 have cq:Hid (∀(k:Nat) (K:List It),L[k]?=oM K->∃bL oL Ai ci,AL=oM ⟨bL,oL,oN⟩/\K.length<=100000/\∀y,Below R R y->bL<y.heap.size/\oT y ⟨bL,oL+k*2,oN⟩=oM (oG Ai K.length ci)/\∀(j:Nat) (x:It),K[j]?=oM x->∃b off,Ai=oM ⟨b,off,oN⟩/\b<y.heap.size/\oT y ⟨b,off+j*2,oN⟩=oM (oH oO x.1)/\oT y ⟨b,off+j*2+1,oN⟩=oM (oH oO x.2)):=Hd (fun k K o=>by
  obtain⟨⟨A',c',hv,_,hc⟩,⟨du,fw⟩,hit,-,g6⟩:=HA.out;have e2:AL=A':=by cases hv;rfl
  subst e2;have hk:=(sG.1 o).1;obtain⟨xv,e3⟩:∃x,V[k]?=oM x:=⟨_,eG nX⟩
  obtain⟨bL,oL,e,dd,c0,c1⟩:=hc k xv e3;obtain⟨⟨Ai,ci,fi,bh⟩,g5,g4⟩:=hit k xv K e3 o;rw[fi]at c0;refine⟨bL,oL,Ai,ci,e,AW (Tg o) J.small,fun y hy=>⟨A0 dd hy.size,(hy.cell (p:=⟨bL,oL+k*2,oN⟩) dd).trans c0,fun j x hx=>?_⟩⟩;obtain⟨b,off,e1,U,h2,h3⟩:=bh j x hx;exact⟨b,off,e1,A0 U hy.size,(hy.cell (p:=⟨b,off+j*2,oN⟩) U).trans h2,(hy.cell (p:=⟨b,off+j*2+1,oN⟩) U).trans h3⟩)
 generalize fj:(Value.agg #[oG AT g.nt cT,oG AN g.nn cN,oG AR g.R.length cR,g.s])=vv at HG au bu ⊢;clear fj bz an b4 af bo cr bp a5 br b3 ct f9 g0 g1 g2 g3;go_loopw [32] (fun ss wr=>∃(s l:Nat) (bv av:oV) (P:List AH),s<=n/\ss=oH oO s/\Hid (Mk R w3 wr I fb n n vv (oG AL n cL) rv ad uv cv bv av (oG oN 0 0) g ((Gz.Cf L 0).take s) P (List.replicate l 0) [] (List.replicate n (oG oN 0 0,[])))/\Hid (P.length=l/\l=Gz.Eo (L.take s))) (fun ss _=>n-(intOf ss).toNat)
 case atStart=>exact⟨0,0,_,_,[],AX _,rfl,bu,Hd ⟨rfl,by simp[Gz.Eo]⟩⟩
 case round=>
  obtain⟨s,l,bv,av,P,hs,rfl,t,p⟩:=hrel;rename oU=>w9
  by_cases a7:s<n
  · obtain⟨K,o⟩:∃K,L[s]?=oM K:=⟨_,eG (by rw[HN.out];exact a7)⟩
    have aq:=Hd o;have cc:((Gz.Cf L 0).take s).length=s:=by rw[List.length_take,G9,HN.out];omega
    obtain⟨Ab,cb,az⟩:=CG t.FX;obtain⟨Aa,ca,ay⟩:=CG t.all;rw[cc]at az;rw[p.1]at ay;subst az;subst ay;have y9:oT w9 (I,9)=oM (oG Ab s cb):=by obtain⟨x0,x1,x2,x3,rfl⟩:=t.vf;exact Ah.cell t.Aj 9
    have b1:oT w9 (I,10)=oM (oG Aa l ca):=by obtain⟨x0,x1,x2,x3,rfl⟩:=t.vf;exact Ah.cell t.Aj 10
    have yl:=t.Aj.lt;have bm:=Hd cc;have fx:l<=100000:=by rw[p.2];exact AW (LC L s) J.small
    obtain⟨lk,aj⟩:∃k,K.length=k:=⟨_,rfl⟩
    have ar:=Hd aj;clear o cc aj;go_upto_region 9 with fail
    refine DY 14 (fun(v:oU)=>oT v (I,9)=oM (oG Ab s cb)/\oT v (I,10)=oM (oG Aa l ca)) nZ ?_;have a0:(fun(v:oU)=>oT v (I,9)=oM (oG Ab s cb)/\oT v (I,10)=oM (oG Aa l ca)) w9.drew:=⟨y9,b1⟩
    refine AF 0 a0 ?_;simp only[AD,AE];refine AF 1 a0 ?_;simp only[AD,AE];refine AF 2 a0 ?_;simp only[AD,AE];refine AF 3 a0 ?_;simp only[AD,AE];refine AF 4 a0 ?_;simp only[AD,AE];refine AF 5 a0 ?_;simp only[AD,AE];refine AF 6 a0 ?_;simp only[AD,AE];refine AF 7 a0 ?_;simp only[AD,AE];refine AF 8 a0 ?_;simp only[AD,AE];refine AF 9 a0 ?_;simp only[AD,AE];clear a0;refine Bm 10 nZ rfl rfl (fun K o=>?_);go_simp;have a9:Hid (Below w9 w9 ((w9.alloc (oP #[l] 3)).drew)):=Hd ((DM w9 _).drew)
    refine o _ _ (fun _=>⟨(a9.cell (p:=⟨I,9,oN⟩) yl).trans y9,(a9.cell (p:=⟨I,10,oN⟩) yl).trans b1⟩) ?_;clear o K;refine Hn 11 nZ rfl rfl rfl (fun K o=>?_);refine Eu Ib (.tmp 39) (.tmp 45) rfl (base:=w3.heap.size) (n:=s) (m:=1) (N:=s+1) (v:=oG Ab s cb) (src:=oG (w9,0) 1 1) (xs:=((Gz.Cf L 0).take s).map AY) (news:=[oH oO l]) rfl rfl (AU (by have h:=t.FX;rw[bm.out]at h;exact h) a9) (Be.Aj (c:=1) (cs:=[oH oO l]) ((Ah.new w9 3 _).drew) rfl oE) rfl oB nX (by have:=t.AA.size;have:=a9.size;omega) ?_
    intro A4 c4 w4 q1 q2 q3;have b9:=Hd (t.dZ a9 (x:=l) (by rw[bm.out];exact q1) q2);rw[bm.out]at b9;have b8:Hid (Ah w4 I 217 _):=Hd (q2.Aj (t.Aj.below a9 t.Aj.lt) (.inr nY));have z9:oT w4 (I,9)=oM (oG Ab s cb):=by obtain⟨x0,x1,x2,x3,rfl⟩:=t.vf;exact Ah.cell b8 9
    have bk:oT w4 (I,10)=oM (oG Aa l ca):=by obtain⟨x0,x1,x2,x3,rfl⟩:=t.vf;exact Ah.cell b8 10
    have yf:w4.frozen? (I,9)=false:=by obtain⟨x0,x1,x2,x3,rfl⟩:=t.vf;exact Ah.frozen b8 9
    have fo:=b8.lt;clear q1 q2 q3 y9 b1 yl;refine o _ _ (fun _=>⟨z9,bk⟩) ?_;clear o K;simp only[List.set_cons_succ,List.set_cons_zero];refine Bm 12 nZ rfl rfl (fun K o=>?_);go_simp;refine o _ _ (fun _=>⟨z9,bk⟩) ?_;clear o K;refine Bm 13 nZ rfl rfl (fun K o=>?_);go_simp;refine o _ _ (fun _=>⟨z9,bk⟩) ?_;clear o K;refine Bm 14 nZ rfl rfl (fun K o=>?_);go_simp;refine o _ _ (fun h=>absurd rfl h) ?_;clear o K;refine D0 nZ ?_ _;generalize w4.setCell (I,9) (oG A4 (s+1) c4)=w5 at *;have e8:Hid (Below R R w5):=Hd b9.1.below
    have cw:=Hd b9.1;rw[p.2,<-mj aq.out,<-p.2]at cw;obtain⟨bL,oL,Ai,ci,ax,cg,hY⟩:=cq s _ aq;obtain⟨lL,x0,-⟩:=hY w5 e8;clear hY;rw[ar.out]at x0 cg;have d2:Hid (l+lk=Gz.Eo (L.take (s+1))/\l+lk<=100000):=Hd (by have U:=OB aq;have h2:=LC L (s+1);have h3:=J.small;have h4:=p.2;have h5:=ar.out;omega)
    have e7:=Hd ax;subst ax;go_wp2_with fail
    clear z9 bk yf fo x0 lL b9 a9;go_loopw [55] (fun jj wr=>∃(j:Nat) (av:oV) (P:List AH),j<=lk/\jj=oH oO j/\Hid (Mk R w3 wr I fb n n vv (oG (oM ⟨bL,oL,oN⟩) n cL) rv ad uv cv (oG A4 (s+1) c4) av (oG oN 0 0) g ((Gz.Cf L 0).take (s+1)) P (List.replicate (l+j) 0) [] (List.replicate n (oG oN 0 0,[])))/\Hid (P.length=l+j)) (fun jj _=>lk-(intOf jj).toNat)
    case atStart=>exact⟨0,_,P,AX _,rfl,cw,Hd p.1⟩
    case round=>
     obtain⟨j,et,P6,hj,rfl,cx,c6⟩:=hrel;rename oU=>w6
     by_cases dq:j<lk
     · have fc:P6.length<=1000000:=by have:=c6.out;have:=d2.2;omega
       go_wp2_with
        (
         go_at_call 131
         refine(SM (HG R al) cx fc).mono ?_;rintro e w7 ⟨rfl,eu,t7,dt,-,-⟩;have eh:=Hd dt;clear dt)
       go_roundw
       case rel=>exact⟨j+1,eu,P6++[t7],nX,oD,Hd (by have h:=eh.out;rw[<-List.replicate_succ']at h;exact h),Hd (by rw[Cb,c6.out];rfl)⟩
       case measure=>simp[intOf];omega
     · obtain rfl:j=lk:=by omega
       go_wp2_with fail
       go_roundw
       case rel=>exact⟨s+1,l+j,_,et,P6,nX,oD,cx,Hd ⟨c6,d2.1⟩⟩
       case measure=>simp[intOf];omega
  · obtain rfl:n=s:=by omega
    have a6:=Hd t;rw[Da (by rw[G9,HN.out];exact Ay _)]at a6;have a4:Hid (P.length=Gz.Eo L/\l=Gz.Eo L):=Hd (by have U:=p.2;rw[Da (by rw[HN.out];exact Ay _)]at U;exact⟨p.1.trans U,U⟩)
    have cj:0<l:=by have:=a4.2;have:=J.some_;omega
    obtain⟨p0,ch⟩:∃a1,P[0]?=oM a1:=⟨_,eG (by rw[p.1];exact cj)⟩
    obtain⟨ba,ca,ay⟩:=Nh t.all (by rw[p.1];exact cj);rw[p.1]at ay;subst ay;have b1:oT w9 (I,10)=oM (oG (ba,0) l ca):=by obtain⟨x0,x1,x2,x3,rfl⟩:=t.vf;exact Ah.cell t.Aj 10
    have ya:oT w9 (ba,0)=oM (.pointer (p0.h,0)):=by have db:=t.all;rw[p.1]at db;rw[Bh db 0 nX,pG,ch];rfl
    have yl:=t.Aj.lt;have fd:(0:Int)<(l:Int):=by omega
    have c7:=Hd (a6.YP ch);have d4:Hid ((List.replicate l 0).set 0 ((List.replicate l 0).getD 0 0|||1)=(List.replicate l 0).set 0 1):=Hd (by
     cases l with
     | zero=>omega
     | succ m=>simp[List.replicate_succ])
    rw[d4.out]at c7;clear ch;go_wp2_with
     (
      go_at_call 132
      refine c7.mono ?_;rintro e g9 ⟨⟨fq,rfl⟩,dr⟩;have bw:=Hd dr;clear dr)
    clear b1 ya yl fd c7 t a6 bu d4;obtain⟨Ab,cb,az⟩:=CG bw.FX;rw[G9,HN.out]at az;subst az;have em:=Hd p.1;have el:=Hd a4.2;clear p a4;go_loopw [70] (fun ii wr=>∃(i nq:Nat) (av ev:oV) (P:List AH) (ED:List (Option AH×Edge)) (FR:List (oV×List It)) (F0:List (List It)),i<=n/\ii=oH oO i/\Hid (Mk R w3 wr I fb n n vv (oG AL n cL) rv ad uv cv (oG Ab n cb) av ev g (Gz.Cf L 0) P ((List.replicate l 0).set 0 1++List.replicate (nq-l) 0) ED FR)/\Hid (P.length=nq/\l<=nq/\F0.length=i/\FR.map (·.2)=F0++List.replicate (n-i) [])/\Hid (g.B0 L E (Gz.Cf L 0) T CC (L.drop i) i (nq,F0,ED.map (·.2))=oM (n0,FF,ed))) (fun ii _=>n-(intOf ii).toNat)
    case atStart=>exact⟨0,l,_,_,P,[],_,[],AX _,rfl,Hd (by rw[Nat.sub_self,List.replicate_zero,List.append_nil];exact bw),Hd ⟨em,Ay _,rfl,oA⟩,Hd (by have h:=J.EK;rw[<-el.out]at h;exact h)⟩
    case round=>
     obtain⟨i,nq,av,ev,P,ED,FR,F0,hi,rfl,t,p,HE⟩:=hrel;rename oU=>fl
     by_cases a7:i<n
     · obtain⟨K,o⟩:∃K,L[i]?=oM K:=⟨_,eG (by rw[HN.out];exact a7)⟩
       have aq:=Hd o;have aa:=HE.out;have hd:L.drop i=K::L.drop (i+1):=by obtain⟨U,h2⟩:=sG.1 o;rw[List.drop_eq_getElem_cons U,h2]
       rw[hd]at aa;obtain⟨q,hq,d8,dw,dx,dy,dz⟩:=fN aa;have HQ:=Hd hq;have bn:=Hd d8;have c8:Hid (nq<=q.1/\q.1<=100000/\q.2.1.length<=100000/\q.2.2.length<=1000000):=Hd ⟨dw,AW dx J.Cm.1,(J.rules _ dz).1,AW dy J.Cm.2.2⟩;have f6:∃fv,FR[i]?=oM (fv,[]):=by
        have U:(FR.map (·.2))[i]?=oM []:=by rw[p.2.2.2,List.getElem?_append_right (by rw[p.2.2.1];exact Ay _),p.2.2.1,Nat.sub_self,List.getElem?_replicate,if_pos nX]
        rw[pG]at U;obtain⟨⟨a,b⟩,h2,h3⟩:=Option.map_eq_some_iff.1 U;simp only at h3;subst h3;exact⟨a,h2⟩
       obtain⟨fv,dm⟩:=f6;have cu:=Hd (Dc.start t dm);rw[p.1]at cu;have ee:Hid ((FR.map (·.2)).length=n):=Hd (by rw[p.2.2.2,Cb,List.length_replicate,p.2.2.1];omega);obtain⟨bL,oL,Ai,ci,ax,cg,hY⟩:=cq i _ o;have ep:=Hd hY;obtain⟨lL,x0,-⟩:=hY fl t.below;clear hY;obtain⟨lk,aj⟩:∃k,K.length=k:=⟨_,rfl⟩
       have ar:=Hd aj;rw[aj]at x0 cg;have e7:=Hd ax;subst ax;obtain⟨b0,bd⟩:∃x,(Gz.Cf L 0)[i]?=oM x:=⟨_,eG (by rw[G9,HN.out];exact a7)⟩
       have dn:(Gz.Cf L 0).getD i 0=b0:=by rw[dG,bd];rfl
       have be:b0<=100000:=J.OK.2.1 b0 (mG bd);rw[dn]at HQ;have cs:=Hd bd;clear o aa hd hq d8 dw dx dy dz dm aj bd dn;go_wp2_with fail
       clear x0 lL;go_loopw [79] (fun jj wr=>∃(j:Nat) (av ev:oV) (P:List AH) (ED:List (Option AH×Edge)) (b2:List (oV×List It)) (a1:Gz.Cw) (wz:oU),j<=lk/\jj=oH oO j/\Hid (Dc R w3 wz wr I fb n n vv (oG (oM ⟨bL,oL,oN⟩) n cL) rv ad uv cv (oG Ab n cb) av ev g (Gz.Cf L 0) P ((List.replicate l 0).set 0 1++List.replicate (nq-l) 0) ED b2 (FR.map (·.2)) i nq a1)/\Hid (g.EJ L E (Gz.Cf L 0) T CC i (K.drop j) (b0+j) a1=oM q)) (fun jj _=>lk-(intOf jj).toNat)
       case atStart=>exact⟨0,_,_,P,ED,FR,_,_,AX _,rfl,cu,Hd HQ⟩
       case round=>
        rename oU=>ak
        obtain⟨j,av,ev,P,ED,b2,a1,wz,hj,rfl,ab,aa⟩:=hrel;by_cases dq:j<lk
        · obtain⟨⟨xa,xb⟩,hx⟩:∃x,K[j]?=oM x:=⟨_,eG (by rw[ar.out];exact dq)⟩
          obtain⟨-,-,bh⟩:=ep ak ab.By.below;obtain⟨bi,oi,ez,f5,d0,d1⟩:=bh j _ hx;clear bh;subst ez;simp only at d0 d1;have dh:K.drop j=(xa,xb)::K.drop (j+1):=by obtain⟨U,h2⟩:=sG.1 hx;rw[List.drop_eq_getElem_cons U,h2]
          have cd:=aa.out;rw[dh]at cd;obtain⟨p2,di,dj,dp⟩:=Yx cd;have bn:=Hd di;have eb:=Hd dj;have bt:Hid (p2.1<=100000/\p2.2.1.length<=100000/\p2.2.2.length<=1000000):=Hd (by obtain⟨g1,g2,g3⟩:=dp;obtain⟨U,h2,h3,h4⟩:=c8.out;omega)
          have d5:Hid (xa<=g.R.length/\xb<=1000000):=Hd (J.items K (mG aq) _ (mG hx));have b5:=Hd (Ah.new ak 220 #[xa,xb]);have ao:Hid (Dc R w3 wz (ak.alloc (oP #[xa,xb] 220)) I fb n n vv (oG (oM ⟨bL,oL,oN⟩) n cL) rv ad uv cv (oG Ab n cb) av ev g (Gz.Cf L 0) P ((List.replicate l 0).set 0 1++List.replicate (nq-l) 0) ED b2 (FR.map (·.2)) i nq a1):=Hd (ab.later (DM ak _));clear hx dh cd di dj dp aa;go_upto_region 22 with fail
          generalize ak.alloc (oP #[xa,xb] 220)=a8 at *;generalize ak.heap.size=bx at *;clear d0 d1 f5;obtain⟨⟨A',c',e1,hc⟩,-,-⟩:BF a8 _ (Gz.Cf L 0):=Hi ao.By.FX (by rw[G9,HN.out];omega);obtain⟨bb,ob,ey,de,bf⟩:=hc i b0 cs;have e2:Ab=A':=by cases e1;rfl
          subst e2;subst ey;clear hc e1;have y9:oT a8 (I,9)=oM (oG (bb,ob) n cb):=by obtain⟨x0,x1,x2,x3,rfl⟩:=ao.By.vf;exact Ah.cell ao.By.Aj 9
          have yl:=ao.By.Aj.lt;have x0:oT a8 (bx,0)=oM (oH oO xa):=Ah.cell b5 0;have x1:oT a8 (bx,1)=oM (oH oO xb):=Ah.cell b5 1;have xl:=b5.lt;have fu:(i:Int)<(n:Int):=by omega
          have g7:IntKind.i64.wrap ((b0:Int)+(j:Int))=(b0:Int)+(j:Int):=by rw[IntKind.wrap_i64];omega
          have ea:Hid (() 133 #[(I,0),i,oH oO ((b0:Int)+(j:Int)),.agg #[xa,xb]] a8.drew (Oy R w3 a8.drew I fb n n vv (oG (oM ⟨bL,oL,oN⟩) n cL) rv ad uv cv (oG (bb,ob) n cb) g (Gz.Cf L 0) ((List.replicate l 0).set 0 1++List.replicate (nq-l) 0) (FR.map (·.2)) i nq p2)):=Hd (by have h:=Y0 au J.OK (ao.later ((Below.refl _ a8).drew)).iA (by rw[ee.out];exact a7) (by rw[HN.out];exact a7) d5.1 d5.2 bn bt.1 bt.2.1 bt.2.2;rw[Int.natCast_add]at h;exact h)
          have en:Hid ((fun(v:oU)=>oT v (I,9)=oM (oG (bb,ob) n cb)/\oT v (bb,ob+i)=oM (oH oO b0)/\oT v (bx,0)=oM (oH oO xa)/\oT v (bx,1)=oM (oH oO xb)) a8.drew):=Hd ⟨y9,bf,x0,x1⟩;clear bf y9 x0 x1 de
          go_region_held3 (fun(v:oU)=>oT v (I,9)=oM (oG (bb,ob) n cb)/\oT v (bb,ob+i)=oM (oH oO b0)/\oT v (bx,0)=oM (oH oO xa)/\oT v (bx,1)=oM (oH oO xb))
           (first|exact en|exact eo)
           (first|(
               go_at_call 133;refine ea.mono ?_;rintro e e4 ⟨rfl,es,ew,P5,e5,e6,ah⟩
               have eg:=Hd ah;have eo:Hid ((fun(v:oU)=>oT v (I,9)=oM (oG (bb,ob) n cb)/\oT v (bb,ob+i)=oM (oH oO b0)/\oT v (bx,0)=oM (oH oO xa)/\oT v (bx,1)=oM (oH oO xb)) e4):=Hd (by
                obtain⟨⟨A',c',e1,hc⟩,-,-⟩:BF e4 _ (Gz.Cf L 0):=Hi ah.By.FX (by rw[G9,HN.out];omega);obtain⟨fr,g8,e2,de,bf⟩:=hc i b0 cs;subst e2;cases e1
                have hx:=ah.keeps.Aj b5.drew (.inr nY);refine⟨?_,bf,Ah.cell hx 0,Ah.cell hx 1⟩;obtain⟨x0,x1,x2,x3,rfl⟩:=ah.By.vf;exact Ah.cell ah.By.Aj 9)
               clear ah))
          go_wp2_with fail
          go_roundw
          case rel=>exact⟨j+1,es,ew,P5,e5,e6,p2,_,nX,oD,eg,eb⟩
          case measure=>simp[intOf];omega
        · obtain rfl:j=lk:=by omega
          have fe:a1=q:=by
           have h:=aa.out;rw[List.drop_of_length_le (by rw[ar.out];exact Ay _)]at h;unfold Gz.EJ at h;cases h
           rfl
          subst fe;go_wp2_with fail
          go_roundw
          case rel=>
           refine⟨i+1,a1.1,av,ev,P,ED,b2,F0++[a1.2.1],nX,oD,Hd ?_,Hd ⟨ab.len,AW p.2.1 c8.1,by rw[Cb,p.2.2.1];rfl,?_⟩,Hd ?_⟩
           ·have h:=ab.By
            rw[ab.len,List.append_assoc,List.replicate_append_replicate]at h;rw[show nq-l+(a1.1-nq)=a1.1-l by have:=p.2.1;have:=c8.1;omega]at h;exact h
           ·rw[ab.rows,p.2.2.2,show n-i=(n-(i+1))+1 by omega,YD _ _ _ _ _ p.2.2.1]
           ·rw[ab.JJ]
            exact bn
          case measure=>simp[intOf];omega
     · obtain rfl:n=i:=by omega
       have c9:=HE.out;rw[List.drop_of_length_le (by rw[HN.out];exact Ay _)]at c9;unfold Gz.B0 at c9;cases c9
       have cy:Hid ((List.replicate l 0).set 0 1++List.replicate (n0-l) 0=(List.replicate n0 0).set 0 1):=Hd (by rw[mT l (n0-l) cj,show l+(n0-l)=n0 by have:=p.2.1;omega])
       have ec:Hid (FR.map (·.2)=FF):=Hd (by rw[p.2.2.2,Nat.sub_self];simp);have a4:=Hd p.1;have a6:=Hd t;rw[cy.out]at a6;have d3:=Hd (Xo a6 (by rw[a4.out];exact J.fit) a6.vf (by rw[a4.out];exact AW J.Cm.1 nY) (by have h:=J.Cm.2.2;rw[lM]at h;exact h) J.spread);have ef:=Hd p.2.2.1;clear p cy t HE;go_wp2_with
        (
         go_at_call 134
         refine d3.mono ?_;rintro e a2 ⟨rfl,ds⟩;have b6:=Hd ds;clear ds)
       clear d3 a6 bw;have e9:Hid (∀y,Below a2 a2 y->Mk R w3 y I fb n n vv (oG AL n cL) rv ad uv cv (oG Ab n cb) av ev g (Gz.Cf L 0) P A ED FR):=Hd (fun y hy=>b6.later hy);have ek:Hid (∀y,Below a2 a2 y->∀j,j<n->() 135 #[(I,0),oH oO j] y (NC y (g.nt+1) (g.IA A (g.CU (L.getD j []) ((Gz.Cf L 0).getD j 0)++FF.getD j [])))):=Hd (fun y hy j hj=>by
        obtain⟨K,o⟩:∃K,L[j]?=oM K:=⟨_,eG (by rw[HN.out];exact hj)⟩
        have f4:L.getD j []=K:=by rw[dG,o];rfl
        have f1:(FR.map (·.2)).length=n:=by rw[lM];exact b6.fin.len
        obtain⟨⟨fv,F⟩,hF⟩:∃x,FR[j]?=oM x:=⟨_,eG (by rw[<-lM (f:=(·.2)),f1];exact hj)⟩
        have d9:FF[j]?=oM F:=by rw[<-ec.out,pG,hF];rfl
        have f0:FF.getD j []=F:=by rw[dG,d9];rfl
        rw[f4,f0];obtain⟨ff,fg⟩:=J.rules F (mG d9);refine aJ au J.OK (e9 y hy) o (J.items K (mG o)) hF (by rw[a4.out];exact fg) ff (by rw[a4.out];exact J.Cm.1) ?_;rw[a4.out,dG,MC L 0 j K o];have U:=OB o;have h2:=LC L (j+1);have h3:=(MT _ _ _ _ J.EK).1;simp only[Option.getD_some]at U h2 h3 ⊢;omega)
       go_loopw [11,103] (fun ov jj wr=>∃(j:Nat) (Z:List (oV×List (Nat×Nat))),j<=n/\jj=oH oO j/\Hid (FJ a2 wr (g.nt+1) ov Z)/\Hid (Z.map (·.2)=(List.range j).map fun s=>g.IA A (g.CU (L.getD s []) ((Gz.Cf L 0).getD s 0)++FF.getD s []))) (fun ov jj _=>n-(intOf jj).toNat)
       case atStart=>exact⟨0,[],AX _,rfl,Hd (FJ.start _ _),Hd rfl⟩
       case round=>
        rename oU=>cn
        obtain⟨j,Z,hj,rfl,HZ,bc⟩:=hrel;obtain⟨Az,cz,fk⟩:=CG HZ.row;subst fk;have cl:Z.length=j:=by have h:=congrArg List.length bc;simpa using h
        have aw:=Hd cl;rw[cl];clear cl;by_cases a7:j<n
        · obtain⟨lj,cf⟩:∃cm,g.IA A (g.CU (L.getD j []) ((Gz.Cf L 0).getD j 0)++FF.getD j [])=cm:=⟨_,rfl⟩
          have b7:=Hd (ek cn HZ.below j a7);rw[cf]at b7;have ej:=Hd cf;clear cf;obtain⟨ll,dv⟩:∃cm,lj.length=cm:=⟨_,rfl⟩
          unfold NC at b7;rw[dv]at b7;go_wp2_with (first
           | (
             go_at_call 135;refine b7.mono ?_;rintro e bj ⟨ae,ag,d6,rfl,ck,ai⟩
             have fp:=Hd ai.below;have f8:d6.length=ll:=by rw[<-dv,<-ck,lM]
             have ei:Hid (E8 a2.heap.size bj (g.nt+1) (oG ae ll ag) lj):=Hd ⟨d6,ck,EN (base':=a2.heap.size) ai.row HZ.below.size,fun z hz=>EN (base':=a2.heap.size) (ai.own z hz) HZ.below.size⟩;have bl:Hid (Below cn cn (bj.alloc (oP #[oG ae ll ag] 124))):=Hd (ai.below.alloc ai.below.size _);clear ck ai f8)
           | (
             at_builtin;refine DC iU (.tmp 106) (.tmp 110) rfl rfl (base:=a2.heap.size) (n:=j) (m:=1) (N:=j+1) (xs:=Z.map (·.1)) (news:=[oG ae ll ag]) rfl rfl (AU (by have h:=HZ.row;rw[aw.out]at h;exact h) bl) (Be.Aj (c:=1) (cs:=[oG ae ll ag]) (Ah.new bj 124 _) rfl oE) rfl oB nX (by have U:=HZ.below.size;have h2:=bl.size;omega) ?_
             intro cp d7 fm q1 q2 q3;have er:Hid (FJ a2 fm (g.nt+1) (oG cp (j+1) d7) (Z++[(oG ae ll ag,lj)])):=Hd (by have h:=(HZ.later bl).more (tv:=oG ae ll ag) (l:=lj) (ei.later (DM bj _)) (A:=cp) (c:=d7) (by rw[aw.out];exact q1) q2;rw[aw.out]at h;exact h)
             clear q1 q2 q3))
          go_roundw
          case rel=>exact⟨j+1,_,nX,oD,er,Hd (by rw[BB,bc.out,List.range_succ,BB];simp only[List.map_cons,List.map_nil];rw[ej.out])⟩
          case measure=>simp[intOf];omega
        · obtain rfl:n=j:=by omega
          go_wp2_with fail
          go_ret2
          refine⟨_,rfl,?_,?_⟩
          ·rw[RB g A L _ FF (G9 _ _) (by rw[ef.out,HN.out]),HN.out,<-bc.out,<-aw.out]
           have fz:=au.gn.fit.nt;have fy:=au.gn.fit.nr;refine HZ.aZ (by rw[aw.out];omega) (fun z hz=>?_) nX (AW al.size b6.below.size);have hm:z.2∈Z.map (·.2):=List.mem_map_of_mem hz;rw[bc.out]at hm;obtain⟨k,hk,e⟩:=List.mem_map.1 hm;rw[<-e];exact AW (Wo _ _ _) nX
          ·have U:=al.out
           have h2:=U.trans (b6.below.mono U.size);exact h2.trans (HZ.below.mono h2.size)
def Le{e:TypeId}{s n:Nat}{xs:List oV}(h:w.ownsRow B e s v n xs)(p:Am X w w')(o:∀b,B<=b->¬X b):w'.ownsRow B e s v n xs:=
 p.own h (fun b i=>o b (by
  rcases Bj h with⟨j,_⟩|⟨t,c,j,l,_⟩
  ·rw[j]at i;cases i
  ·rw[j]at i;cases i;exact l))
def Mg.past{V:List (oV×oV)}(h:Mg B w v V L E)(p:Am X w w')(o:∀b,B<=b->¬X b):FE w' v V L E:=by
 have C:=Le h.rows p o;obtain⟨⟨A,c,rfl,U,a0⟩,I,J,P,R⟩:=h.Gy;refine⟨⟨A,c,rfl,U,fun k x i=>?_⟩,I,fun k x l i j=>CQ.own (Le (h.items k x l i j) p o) (J k x l i j).short,fun k x l i j=>CQ.own (Le (h.trans k x l i j) p o) (P k x l i j).short,R⟩;rcases Bj C with⟨t,e2⟩|⟨b,c',t,h6,T,_⟩
 ·have:=(sG.1 i).1
  omega
 ·cases t
  have:=Mc C i;exact⟨b,0,rfl,T,by simpa using this⟩
def Ny.past{m:Nat}{l:List (List (Nat×Nat))}(h:Ny B w m v l)(hm:m<=1000000)(p:Am X w w')(o:∀b,B<=b->¬X b):I1 w' m v l:=by
 obtain⟨h1,Z,rfl,h2,h3⟩:=h;obtain⟨Ad,c,hv,hn,C,T⟩:=id h1;rw[lM]at C T;have hl:∀(k:Nat) (z:oV×List (Nat×Nat)),Z[k]?=oM z->z.2.length<=1000000:=fun k z i=>by
  obtain⟨b,off,_,_,_,R⟩:=T k (sG.1 i).1;obtain⟨x,_,hx⟩:=R 0 nY;have t:(Z.map (·.2)).getD k []=z.2:=by rw[dG,pG,i];rfl
  have U:GY w m x ((Z.map (·.2)).getD k []):=hx;rw[t]at U;obtain⟨_,_,_,_,J,_⟩:=id U;exact J
 have I:=Le h2 p o;unfold I1;rw[lM];rcases Bj I with⟨e1,e2⟩|⟨b,c,rfl,J,P,h7,_,a1,hb⟩
 ·exact⟨oN,0,by rw[e1,e2],nX,C,fun k i=>by omega⟩
 ·refine⟨_,c,rfl,h7,C,fun k i=>⟨b,0,rfl,P,P,fun a0 R=>?_⟩⟩
  obtain⟨z,j⟩:∃z,Z[k]?=oM z:=⟨_,eG i⟩
  obtain rfl:a0=0:=by omega
  have t:(Z.map (·.2)).getD k []=z.2:=by rw[dG,pG,j];rfl
  refine⟨z.1,?_,?_⟩
  ·rw[Nat.zero_add,Nat.mul_one,Nat.add_zero,Bh I k nX,pG,j];rfl
  ·show GY w' m z.1 _
   rw[t];obtain⟨Y,y1,y2,y3⟩:=h3 z (mG j);exact E8.RY (B:=B) ⟨Y,y1,Le y2 p o,fun y hy=>Le (y3 y hy) p o⟩ (hl k z j) hm
def GR(w:oU)(v:oV)(g:Gz)(L E:List (List It))(K:List (List (Nat×Nat))):Prop:=∃j i V,v=.agg #[g.R.length,j,i]/\FE w j V L E/\I1 w (g.nt+1) i K
def GR.later{K:List (List (Nat×Nat))}(h:GR w v g L E K)(i:Below w w w'):GR w' v g L E K:=by obtain⟨t,p,V,j,l,o⟩:=h;exact⟨t,p,V,j,l.later i,o.later i⟩
def aM(t:GN w v g){f f2 f3:Nat}(ha:g.KD f=oM (L,E)){o:List (List It)}(hi:I7 g L E f2 f3 Em C T CC n0 o ed A) :
  () 57 #[v] w fun e w'=>∃mv,e=oQ (.tuple #[mv,oH oO 0])/\GR w' mv g L E (g.Ij A L (Gz.Cf L 0) o)/\Below w w w':=by
 have a7:Hid (∀y,Below w w y->() 90 #[v] y fun e w'=>∃lv V,e=oQ (.tuple #[lv,oH oO 0])/\Mg y.heap.size w' lv V L E/\Below y y w'):=Hd (fun y hy=>RE (t.later hy) ha);have a9:Hid (∀y,Below w w y->() 91 #[v] y (Oh y (g.nt+1) (g.Ij A L (Gz.Cf L 0) o))):=Hd (fun y hy=>fO (t.later hy) ha hi);obtain⟨P,cT,I,cN,J,cR,rfl,-,-⟩:=t.open_;have a8:=Hd (Ah.new w 47 #[oG P g.nt cT,oG I g.nn cN,oG J g.R.length cR,g.s]);have a0:=Hd (AG w (oP #[oG P g.nt cT,oG I g.nn cN,oG J g.R.length cR,g.s] 47))
 have a2:=Hd (a8.alloc (oP #[oH oO 0,oG oN 0 0,oG oN 0 0] 107));have a4:=Hd (Ah.new (w.alloc (oP #[oG P g.nt cT,oG I g.nn cN,oG J g.R.length cR,g.s] 47)) 107 #[oH oO 0,oG oN 0 0,oG oN 0 0]);have R:=Hd (a0.alloc a0.size (oP #[oH oO 0,oG oN 0 0,oG oN 0 0] 107));have aa:=Hd t.fit.nt;clear t ha hi;go_enter Tryz.func57,Tryz.ntmps57
 go_wp2_with (first
  | (
    go_at_call 90;refine(a7 _ R).mono ?_;rintro e w2 ⟨lv,V,rfl,hA,p⟩
    obtain⟨⟨AL,cL,ad,-⟩,-⟩:=id hA.Gy;subst ad;have HA:=Hd hA;have a6:=Hd p.size;have U:=Hd (R.trans (p.mono R.size));have i:=Hd (a2.below p a2.lt);have a3:=Hd (a4.below p a4.lt);have g0:=Ah.cell i 0;have g1:=Ah.cell i 1;have g2:=Ah.cell i 2;have g3:=Ah.cell i 3;simp at g0 g1 g2 g3;clear hA p)
  | (
    go_at_call 91;refine(a9 _ U).mono ?_;rintro e w3 ⟨lo,rfl,hl,j⟩
    obtain⟨Ao,co,ab,-⟩:=id hl.1;subst ab;have HL:=Hd hl;have a5:=Hd (Am.AJ (X:=fun _=>False) j);have a1:=Hd (U.trans (j.mono U.size));have l:=Hd (a3.below j a3.lt);have x0:=Ah.cell (i.below j i.lt) 0;have x1:=Ah.cell (i.below j i.lt) 1;have x2:=Ah.cell (i.below j i.lt) 2;have x3:=Ah.cell (i.below j i.lt) 3;simp at x0 x1 x2 x3;have m0:=Ah.cell l 0;have m1:=Ah.cell l 1;have m2:=Ah.cell l 2;have ml:=l.lt;have ae:=Ah.frozen l 0;have af:=Ah.frozen l 1
    have ag:=Ah.frozen l 2;simp at m0 m1 m2 ml ae af ag;clear hl j))
 (try simp only[Exit.inBlock,Exit.then])
 refine bodyPost_ret (v:=.tuple #[.agg #[g.R.length,oG AL V.length cL,oG Ao (g.Ij A L (Gz.Cf L 0) o).length co],oH oO 0]) ?_ rfl ?_
 ·rw[results_cell_tmp rfl]
  go_simp
 ·have HC:Hid (Am (·=w.heap.size+1) w3 (((w3.setCell (w.heap.size+1,0) g.R.length).setCell (w.heap.size+1,1) (oG AL V.length cL)).setCell (w.heap.size+1,2) (oG Ao (g.Ij A L (Gz.Cf L 0) o).length co))):=Hd (Am.set (X:=(·=w.heap.size+1)) (Am.set (X:=(·=w.heap.size+1)) (Am.set (X:=(·=w.heap.size+1)) (Am.refl _ w3) (p:=⟨w.heap.size+1,0,oN⟩) (.inr rfl) _) (p:=⟨w.heap.size+1,1,oN⟩) (.inr rfl) _) (p:=⟨w.heap.size+1,2,oN⟩) (.inr rfl) _)
  refine⟨_,rfl,⟨_,_,V,rfl,?_,?_⟩,?_⟩
  ·refine HA.past ((a5.mono (fun _ h=>h.elim)).next HC) (fun b hb e=>?_)
   simp at hb;omega
  ·refine HL.past (by have:=aa.out;omega) HC (fun b hb e=>?_)
   have h2:=a6.out;simp at h2;omega
  ·exact a1.trans ((HC.below (AW a1.size (Ay _)) (fun k hk e=>by omega)))
