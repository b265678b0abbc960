/- . -/
import Derived.Test.YtiljpamcmmeflaaGreatDoorXav
import Derived.Laws.ResultCell
set_option linter.all false
set_option maxRecDepth 100000
set_option maxHeartbeats 16000000
namespace Go.Proofs.YtiljpamcmmeflaaGreatDoor
open Go.RowKit
open Value renaming slice→nC,int→nE
open Option renaming some→nJ,none→nK
open IntKind renaming i64→nM
open Obj renaming cells→nO
open Ending renaming returned→nP
open World renaming cell?→nQ
open Go renaming World→nS,Value→nU
variable{w w':nS}{v:nU}{g:Gz}{E L:List (List It)}{B Em n0:Nat}{A C:List Nat}{T:List (List (Nat×Bool))}{CC:List (List AZ)}{ed:List Edge}{X:Nat->Prop}
def PL(w:nS)(m:Nat)(l:List (List (Nat×Nat)))(e:Ending)(w':nS):Prop:=∃i,e=nP (.tuple #[i,nE nM 0])/\MB w.heap.size w' m i l/\Below w w w'
def eO(hg:GN w v g){f f2 f3:Nat}(ha:g.J8 f=nJ (L,E)){FF:List (List It)}(hi:IU g L E f2 f3 Em C T CC n0 FF ed A) :
  () 115 #[v] w (PL w (g.nt+1) (g.Hz A L (Gz.Ca L 0) FF)):=by
 obtain⟨n,hn⟩:∃n,L.length=n:=⟨_,rfl⟩
 have fa:n<=100000:=by rw[<-hn];exact hi.B7.2.1
 have f9:=fun y=>Ji (P:=Tryz.prog) (t:=247) (e:=305) (z:=nC nK 0 0) (bytes:=24) Tryz.underlying247 mU rfl (l:=((n:Nat):Int)) (n:=n) rfl mR mR y
 have ct:Hid (∀y,Below w w y->() 114 #[v] y fun e w'=>∃lv V,e=nP (.tuple #[lv,nE nM 0])/\Fu w' lv V L E/\Below y y w'):=Hd (fun y hy=>dZ (hg.later hy) ha);have HG:=Hd (fun y (hy:Below w w y)=>hg.later hy);have J:=Hd hi;have HN:=Hd hn;obtain⟨AT,cT,AN,cN,AR,cR,rfl,-,-⟩:=hg.open_;have br:=Hd (Ah.new w 58 #[nC AT g.nt cT,nC AN g.nn cN,nC AR g.R.length cR,g.s]);have b3:=Hd (AE w (nO #[nC AT g.nt cT,nC AN g.nn cN,nC AR g.R.length cR,g.s] 58));clear hg ha hi hn
 unfold PL;go_enter Tryz.func115,Tryz.ntmps115
 go_upto_region 4 with
  (
   go_at_call 114;refine(ct _ b3).mono ?_;rintro e R ⟨lv,V,rfl,hA,be⟩
   have al:=Hd (b3.trans (be.mono b3.size));have HA:=Hd hA;have a5:=Hd (br.below be br.lt);obtain⟨⟨AL,cL,f7,fs,-⟩,⟨du,-⟩,-,-,-⟩:=id hA;subst f7;have g0:=Ah.cell a5 0;have g1:=Ah.cell a5 1;have g2:=Ah.cell a5 2;have g3:=Ah.cell a5 3;simp at g0 g1 g2 g3;have da:V.length=n:=by rw[<-du,HN.out]
   rw[da]at HA;rw[da];clear hA be)
 generalize ft:w.heap.size=gb at a5 g0 g1 g2 g3 ⊢;refine CO 7 (fun(v:nS)=>nQ v (gb,0)=nJ (nC AT g.nt cT)/\nQ v (gb,1)=nJ (nC AN g.nn cN)/\nQ v (gb,2)=nJ (nC AR g.R.length cR)/\nQ v (gb,3)=nJ (nE nM g.s)) mU ?_;have a0:(fun(v:nS)=>nQ v (gb,0)=nJ (nC AT g.nt cT)/\nQ v (gb,1)=nJ (nC AN g.nn cN)/\nQ v (gb,2)=nJ (nC AR g.R.length cR)/\nQ v (gb,3)=nJ (nE nM g.s)) R.drew:=⟨g0,g1,g2,g3⟩
 refine AG 0 a0 ?_;simp only[AD,AA];refine AG 1 a0 ?_;simp only[AD,AA];refine AG 2 a0 ?_;simp only[AD,AA];refine AG 3 a0 ?_;simp only[AD,AA];clear a0;refine Be 4 mU rfl rfl (fun K o=>?_);go_simp;have bo:=Hd (Ah.new R 305 (Array.replicate n (nC nK 0 0)));have b4:Hid (Below R R (R.alloc (nO (Array.replicate n (nC nK 0 0)) 305))):=Hd (AE R _);have af:=Hd (a5.below b4 a5.lt);have a0:(fun(v:nS)=>nQ v (gb,0)=nJ (nC AT g.nt cT)/\nQ v (gb,1)=nJ (nC AN g.nn cN)/\nQ v (gb,2)=nJ (nC AR g.R.length cR)/\nQ v (gb,3)=nJ (nE nM g.s)) (R.alloc (nO (Array.replicate n (nC nK 0 0)) 305)).drew:=⟨Ah.cell af 0,Ah.cell af 1,Ah.cell af 2,Ah.cell af 3⟩
 refine o _ _ (fun _=>a0) ?_;clear o K;refine AG 5 a0 ?_;simp only[AD,AA];generalize dk:R.heap.size=fb at *;have bq:=Hd dk;clear dk;generalize R.alloc (nO (Array.replicate n (nC nK 0 0)) 305)=w2 at *;refine Be 6 mU rfl rfl (fun K o=>?_);go_simp;have bz:=Hd (Ah.new w2 253 (EH (.agg #[nC AT g.nt cT,nC AN g.nn cN,nC AR g.R.length cR,g.s]) (nC AL n cL) (nC nK 0 0) (nC nK 0 0) (nC nK 0 0) (nC nK 0 0) (nC nK 0 0) (nC nK 0 0) (nC nK 0 0) (nC (fb,0) n n)))
 clear a0;have an:=Hd (af.alloc (nO #[nC AT g.nt cT,nC AN g.nn cN,nC AR g.R.length cR,g.s,nC AL n cL,nC nK 0 0,nC nK 0 0,nC nK 0 0,nC nK 0 0,nC nK 0 0,nC nK 0 0,nC nK 0 0,nC (fb,0) n n] 253));refine o _ _ (fun _=>⟨Ah.cell an 0,Ah.cell an 1,Ah.cell an 2,Ah.cell an 3⟩) ?_;clear o K;refine Be 7 mU rfl rfl (fun K o=>?_);go_simp;refine o _ _ (fun h=>absurd rfl h) ?_;clear o K;refine CI mU ?_ _;have cr:Hid (Below fb R (w2.alloc (nO (EH (.agg #[nC AT g.nt cT,nC AN g.nn cN,nC AR g.R.length cR,g.s]) (nC AL n cL) (nC nK 0 0) (nC nK 0 0) (nC nK 0 0) (nC nK 0 0) (nC nK 0 0) (nC nK 0 0) (nC nK 0 0) (nC (fb,0) n n)) 253))):=Hd (b4.alloc (by have:=b4.size;rw[bq.out]at this;exact this) _)
 have bp:=Hd (bo.alloc (nO (EH (.agg #[nC AT g.nt cT,nC AN g.nn cN,nC AR g.R.length cR,g.s]) (nC AL n cL) (nC nK 0 0) (nC nK 0 0) (nC nK 0 0) (nC nK 0 0) (nC nK 0 0) (nC nK 0 0) (nC nK 0 0) (nC (fb,0) n n)) 253));have a3:Hid (R.heap.size<=fb/\fb<w2.heap.size):=Hd ⟨by rw[bq.out];exact AF _,bo.lt⟩;generalize w2.heap.size=I at *;go_wp2_with
  (
   go_at_call 148
   refine(Zl (HG R al) (by rw[bq.out];exact cr.drew) (AY a3.1 (Nat.le_of_lt a3.2)) bz.drew J.first J.ND J.comes).mono ?_;rintro e w3 hp;obtain⟨rfl,rv,ad,uv,cv,dc,e0,df,fh,dg⟩:=hp.cY (HG R al) HA ⟨AY a3.1 (Nat.le_of_lt a3.2),bz.drew.lt⟩ ⟨a3.1,bp.drew.lt⟩ J.Mv J.comes;have au:=Hd e0;have bu:=Hd (Mk.start (n:=n) (g:=g) dc ⟨_,_,_,_,rfl⟩ df (AY a3.1 (Nat.le_of_lt a3.2)) a3.1 (dg.Ap bp.drew (by have:=a3.2;intro e;omega)) fa)
   clear hp dc e0 df fh dg)
 have cq:Hid (∀(k:Nat) (K:List It),L[k]?=nJ K->∃bL oL Ai ci,AL=nJ ⟨bL,oL,nK⟩/\K.length<=100000/\∀y,Below R R y->bL<y.heap.size/\nQ y ⟨bL,oL+k*2,nK⟩=nJ (nC Ai K.length ci)/\∀(j:Nat) (x:It),K[j]?=nJ x->∃b off,Ai=nJ ⟨b,off,nK⟩/\b<y.heap.size/\nQ y ⟨b,off+j*2,nK⟩=nJ (nE nM x.1)/\nQ y ⟨b,off+j*2+1,nK⟩=nJ (nE nM x.2)):=Hd (fun k K o=>by
  obtain⟨⟨A',c',hv,_,hc⟩,⟨du,fw⟩,hit,-,g6⟩:=HA.out;have e2:AL=A':=by cases hv;rfl
  subst e2;have hk:=(sG.1 o).1;obtain⟨xv,e3⟩:∃x,V[k]?=nJ x:=⟨_,eG mR⟩
  obtain⟨bL,oL,e,dd,c0,c1⟩:=hc k xv e3;obtain⟨⟨Ai,ci,fi,bh⟩,g5,g4⟩:=hit k xv K e3 o;rw[fi]at c0;refine⟨bL,oL,Ai,ci,e,AY (Tw o) J.small,fun y hy=>⟨AK dd hy.size,(hy.cell (p:=⟨bL,oL+k*2,nK⟩) dd).trans c0,fun j x hx=>?_⟩⟩;obtain⟨b,off,e1,U,h2,h3⟩:=bh j x hx;exact⟨b,off,e1,AK U hy.size,(hy.cell (p:=⟨b,off+j*2,nK⟩) U).trans h2,(hy.cell (p:=⟨b,off+j*2+1,nK⟩) U).trans h3⟩)
 generalize fj:(Value.agg #[nC AT g.nt cT,nC AN g.nn cN,nC AR g.R.length cR,g.s])=vv at HG au bu ⊢;clear fj bz an b4 af bo cr bp a5 br b3 ct f9 g0 g1 g2 g3;go_loopw [32] (fun ss wr=>∃(s l:Nat) (bv av:nU) (P:List AH),s<=n/\ss=nE nM s/\Hid (Mk R w3 wr I fb n n vv (nC AL n cL) rv ad uv cv bv av (nC nK 0 0) g ((Gz.Ca L 0).take s) P (List.replicate l 0) [] (List.replicate n (nC nK 0 0,[])))/\Hid (P.length=l/\l=Gz.Eb (L.take s))) (fun ss _=>n-(intOf ss).toNat)
 case atStart=>exact⟨0,0,_,_,[],A0 _,rfl,bu,Hd ⟨rfl,by simp[Gz.Eb]⟩⟩
 case round=>
  obtain⟨s,l,bv,av,P,hs,rfl,t,p⟩:=hrel;rename nS=>w9
  by_cases a7:s<n
  · obtain⟨K,o⟩:∃K,L[s]?=nJ K:=⟨_,eG (by rw[HN.out];exact a7)⟩
    have aq:=Hd o;have cc:((Gz.Ca L 0).take s).length=s:=by rw[List.length_take,He,HN.out];omega
    obtain⟨Ab,cb,az⟩:=CS t.FQ;obtain⟨Aa,ca,ay⟩:=CS t.all;rw[cc]at az;rw[p.1]at ay;subst az;subst ay;have y9:nQ w9 (I,9)=nJ (nC Ab s cb):=by obtain⟨x0,x1,x2,x3,rfl⟩:=t.vf;exact Ah.cell t.Ap 9
    have b1:nQ w9 (I,10)=nJ (nC Aa l ca):=by obtain⟨x0,x1,x2,x3,rfl⟩:=t.vf;exact Ah.cell t.Ap 10
    have yl:=t.Ap.lt;have bm:=Hd cc;have fx:l<=100000:=by rw[p.2];exact AY (Lz L s) J.small
    obtain⟨lk,aj⟩:∃k,K.length=k:=⟨_,rfl⟩
    have ar:=Hd aj;clear o cc aj;go_upto_region 9 with fail
    refine CO 14 (fun(v:nS)=>nQ v (I,9)=nJ (nC Ab s cb)/\nQ v (I,10)=nJ (nC Aa l ca)) mU ?_;have a0:(fun(v:nS)=>nQ v (I,9)=nJ (nC Ab s cb)/\nQ v (I,10)=nJ (nC Aa l ca)) w9.drew:=⟨y9,b1⟩
    refine AG 0 a0 ?_;simp only[AD,AA];refine AG 1 a0 ?_;simp only[AD,AA];refine AG 2 a0 ?_;simp only[AD,AA];refine AG 3 a0 ?_;simp only[AD,AA];refine AG 4 a0 ?_;simp only[AD,AA];refine AG 5 a0 ?_;simp only[AD,AA];refine AG 6 a0 ?_;simp only[AD,AA];refine AG 7 a0 ?_;simp only[AD,AA];refine AG 8 a0 ?_;simp only[AD,AA];refine AG 9 a0 ?_;simp only[AD,AA];clear a0;refine Be 10 mU rfl rfl (fun K o=>?_);go_simp;have a9:Hid (Below w9 w9 ((w9.alloc (nO #[l] 3)).drew)):=Hd ((DE w9 _).drew)
    refine o _ _ (fun _=>⟨(a9.cell (p:=⟨I,9,nK⟩) yl).trans y9,(a9.cell (p:=⟨I,10,nK⟩) yl).trans b1⟩) ?_;clear o K;refine Co 11 mU rfl rfl rfl (fun K o=>?_);refine Dt GW (.tmp 39) (.tmp 45) rfl (base:=w3.heap.size) (n:=s) (m:=1) (N:=s+1) (v:=nC Ab s cb) (src:=nC (w9,0) 1 1) (xs:=((Gz.Ca L 0).take s).map AS) (news:=[nE nM l]) rfl rfl (AV (by have h:=t.FQ;rw[bm.out]at h;exact h) a9) (Ba.Ap (c:=1) (cs:=[nE nM l]) ((Ah.new w9 3 _).drew) rfl mZ) rfl mW mR (by have:=t.Ay.size;have:=a9.size;omega) ?_
    intro A4 c4 w4 q1 q2 q3;have b9:=Hd (t.gN a9 (x:=l) (by rw[bm.out];exact q1) q2);rw[bm.out]at b9;have b8:Hid (Ah w4 I 253 _):=Hd (q2.Ap (t.Ap.below a9 t.Ap.lt) (.inr mT));have z9:nQ w4 (I,9)=nJ (nC Ab s cb):=by obtain⟨x0,x1,x2,x3,rfl⟩:=t.vf;exact Ah.cell b8 9
    have bk:nQ w4 (I,10)=nJ (nC Aa l ca):=by obtain⟨x0,x1,x2,x3,rfl⟩:=t.vf;exact Ah.cell b8 10
    have yf:w4.frozen? (I,9)=false:=by obtain⟨x0,x1,x2,x3,rfl⟩:=t.vf;exact Ah.frozen b8 9
    have fo:=b8.lt;clear q1 q2 q3 y9 b1 yl;refine o _ _ (fun _=>⟨z9,bk⟩) ?_;clear o K;simp only[List.set_cons_succ,List.set_cons_zero];refine Be 12 mU rfl rfl (fun K o=>?_);go_simp;refine o _ _ (fun _=>⟨z9,bk⟩) ?_;clear o K;refine Be 13 mU rfl rfl (fun K o=>?_);go_simp;refine o _ _ (fun _=>⟨z9,bk⟩) ?_;clear o K;refine Be 14 mU rfl rfl (fun K o=>?_);go_simp;refine o _ _ (fun h=>absurd rfl h) ?_;clear o K;refine CI mU ?_ _;generalize w4.setCell (I,9) (nC A4 (s+1) c4)=w5 at *;have e8:Hid (Below R R w5):=Hd b9.1.below
    have cw:=Hd b9.1;rw[p.2,<-lE aq.out,<-p.2]at cw;obtain⟨bL,oL,Ai,ci,ax,cg,hY⟩:=cq s _ aq;obtain⟨lL,x0,-⟩:=hY w5 e8;clear hY;rw[ar.out]at x0 cg;have d2:Hid (l+lk=Gz.Eb (L.take (s+1))/\l+lk<=100000):=Hd (by have U:=OF aq;have h2:=Lz L (s+1);have h3:=J.small;have h4:=p.2;have h5:=ar.out;omega)
    have e7:=Hd ax;subst ax;go_wp2_with fail
    clear z9 bk yf fo x0 lL b9 a9;go_loopw [55] (fun jj wr=>∃(j:Nat) (av:nU) (P:List AH),j<=lk/\jj=nE nM j/\Hid (Mk R w3 wr I fb n n vv (nC (nJ ⟨bL,oL,nK⟩) n cL) rv ad uv cv (nC A4 (s+1) c4) av (nC nK 0 0) g ((Gz.Ca L 0).take (s+1)) P (List.replicate (l+j) 0) [] (List.replicate n (nC nK 0 0,[])))/\Hid (P.length=l+j)) (fun jj _=>lk-(intOf jj).toNat)
    case atStart=>exact⟨0,_,P,A0 _,rfl,cw,Hd p.1⟩
    case round=>
     obtain⟨j,et,P6,hj,rfl,cx,c6⟩:=hrel;rename nS=>w6
     by_cases dq:j<lk
     · have fc:P6.length<=1000000:=by have:=c6.out;have:=d2.2;omega
       go_wp2_with
        (
         go_at_call 149
         refine(SV (HG R al) cx fc).mono ?_;rintro e w7 ⟨rfl,eu,t7,dt,-,-⟩;have eh:=Hd dt;clear dt)
       go_roundw
       case rel=>exact⟨j+1,eu,P6++[t7],mR,mY,Hd (by have h:=eh.out;rw[<-List.replicate_succ']at h;exact h),Hd (by rw[BS,c6.out];rfl)⟩
       case measure=>simp[intOf];omega
     · obtain rfl:j=lk:=by omega
       go_wp2_with fail
       go_roundw
       case rel=>exact⟨s+1,l+j,_,et,P6,mR,mY,cx,Hd ⟨c6,d2.1⟩⟩
       case measure=>simp[intOf];omega
  · obtain rfl:n=s:=by omega
    have a6:=Hd t;rw[Dd (by rw[He,HN.out];exact AF _)]at a6;have a4:Hid (P.length=Gz.Eb L/\l=Gz.Eb L):=Hd (by have U:=p.2;rw[Dd (by rw[HN.out];exact AF _)]at U;exact⟨p.1.trans U,U⟩)
    have cj:0<l:=by have:=a4.2;have:=J.some_;omega
    obtain⟨p0,ch⟩:∃a1,P[0]?=nJ a1:=⟨_,eG (by rw[p.1];exact cj)⟩
    obtain⟨ba,ca,ay⟩:=Mh t.all (by rw[p.1];exact cj);rw[p.1]at ay;subst ay;have b1:nQ w9 (I,10)=nJ (nC (ba,0) l ca):=by obtain⟨x0,x1,x2,x3,rfl⟩:=t.vf;exact Ah.cell t.Ap 10
    have ya:nQ w9 (ba,0)=nJ (.pointer (p0.h,0)):=by have db:=t.all;rw[p.1]at db;rw[Bb db 0 mR,pG,ch];rfl
    have yl:=t.Ap.lt;have fd:(0:Int)<(l:Int):=by omega
    have c7:=Hd (a6.gS ch);have d4:Hid ((List.replicate l 0).set 0 ((List.replicate l 0).getD 0 0|||1)=(List.replicate l 0).set 0 1):=Hd (by
     cases l with
     | zero=>omega
     | succ m=>simp[List.replicate_succ])
    rw[d4.out]at c7;clear ch;go_wp2_with
     (
      go_at_call 150
      refine c7.mono ?_;rintro e g9 ⟨⟨fq,rfl⟩,dr⟩;have bw:=Hd dr;clear dr)
    clear b1 ya yl fd c7 t a6 bu d4;obtain⟨Ab,cb,az⟩:=CS bw.FQ;rw[He,HN.out]at az;subst az;have em:=Hd p.1;have el:=Hd a4.2;clear p a4;go_loopw [70] (fun ii wr=>∃(i nq:Nat) (av ev:nU) (P:List AH) (ED:List (Option AH×Edge)) (FR:List (nU×List It)) (F0:List (List It)),i<=n/\ii=nE nM i/\Hid (Mk R w3 wr I fb n n vv (nC AL n cL) rv ad uv cv (nC Ab n cb) av ev g (Gz.Ca L 0) P ((List.replicate l 0).set 0 1++List.replicate (nq-l) 0) ED FR)/\Hid (P.length=nq/\l<=nq/\F0.length=i/\FR.map (·.2)=F0++List.replicate (n-i) [])/\Hid (g.B4 L E (Gz.Ca L 0) T CC (L.drop i) i (nq,F0,ED.map (·.2))=nJ (n0,FF,ed))) (fun ii _=>n-(intOf ii).toNat)
    case atStart=>exact⟨0,l,_,_,P,[],_,[],A0 _,rfl,Hd (by rw[Nat.sub_self,List.replicate_zero,List.append_nil];exact bw),Hd ⟨em,AF _,rfl,mV⟩,Hd (by have h:=J.Ex;rw[<-el.out]at h;exact h)⟩
    case round=>
     obtain⟨i,nq,av,ev,P,ED,FR,F0,hi,rfl,t,p,HE⟩:=hrel;rename nS=>fl
     by_cases a7:i<n
     · obtain⟨K,o⟩:∃K,L[i]?=nJ K:=⟨_,eG (by rw[HN.out];exact a7)⟩
       have aq:=Hd o;have aa:=HE.out;have hd:L.drop i=K::L.drop (i+1):=by obtain⟨U,h2⟩:=sG.1 o;rw[List.drop_eq_getElem_cons U,h2]
       rw[hd]at aa;obtain⟨q,hq,d8,dw,dx,dy,dz⟩:=ZM aa;have HQ:=Hd hq;have bn:=Hd d8;have c8:Hid (nq<=q.1/\q.1<=100000/\q.2.1.length<=100000/\q.2.2.length<=1000000):=Hd ⟨dw,AY dx J.B7.1,(J.rules _ dz).1,AY dy J.B7.2.2⟩;have f6:∃fv,FR[i]?=nJ (fv,[]):=by
        have U:(FR.map (·.2))[i]?=nJ []:=by rw[p.2.2.2,List.getElem?_append_right (by rw[p.2.2.1];exact AF _),p.2.2.1,Nat.sub_self,List.getElem?_replicate,if_pos mR]
        rw[pG]at U;obtain⟨⟨a,b⟩,h2,h3⟩:=Option.map_eq_some_iff.1 U;simp only at h3;subst h3;exact⟨a,h2⟩
       obtain⟨fv,dm⟩:=f6;have cu:=Hd (CZ.start t dm);rw[p.1]at cu;have ee:Hid ((FR.map (·.2)).length=n):=Hd (by rw[p.2.2.2,BS,List.length_replicate,p.2.2.1];omega);obtain⟨bL,oL,Ai,ci,ax,cg,hY⟩:=cq i _ o;have ep:=Hd hY;obtain⟨lL,x0,-⟩:=hY fl t.below;clear hY;obtain⟨lk,aj⟩:∃k,K.length=k:=⟨_,rfl⟩
       have ar:=Hd aj;rw[aj]at x0 cg;have e7:=Hd ax;subst ax;obtain⟨b0,bd⟩:∃x,(Gz.Ca L 0)[i]?=nJ x:=⟨_,eG (by rw[He,HN.out];exact a7)⟩
       have dn:(Gz.Ca L 0).getD i 0=b0:=by rw[dG,bd];rfl
       have be:b0<=100000:=J.Pz.2.1 b0 (mG bd);rw[dn]at HQ;have cs:=Hd bd;clear o aa hd hq d8 dw dx dy dz dm aj bd dn;go_wp2_with fail
       clear x0 lL;go_loopw [79] (fun jj wr=>∃(j:Nat) (av ev:nU) (P:List AH) (ED:List (Option AH×Edge)) (b2:List (nU×List It)) (a1:Gz.Cr) (wz:nS),j<=lk/\jj=nE nM j/\Hid (CZ R w3 wz wr I fb n n vv (nC (nJ ⟨bL,oL,nK⟩) n cL) rv ad uv cv (nC Ab n cb) av ev g (Gz.Ca L 0) P ((List.replicate l 0).set 0 1++List.replicate (nq-l) 0) ED b2 (FR.map (·.2)) i nq a1)/\Hid (g.EI L E (Gz.Ca L 0) T CC i (K.drop j) (b0+j) a1=nJ q)) (fun jj _=>lk-(intOf jj).toNat)
       case atStart=>exact⟨0,_,_,P,ED,FR,_,_,A0 _,rfl,cu,Hd HQ⟩
       case round=>
        rename nS=>ak
        obtain⟨j,av,ev,P,ED,b2,a1,wz,hj,rfl,ab,aa⟩:=hrel;by_cases dq:j<lk
        · obtain⟨⟨xa,xb⟩,hx⟩:∃x,K[j]?=nJ x:=⟨_,eG (by rw[ar.out];exact dq)⟩
          obtain⟨-,-,bh⟩:=ep ak ab.Bw.below;obtain⟨bi,oi,ez,f5,d0,d1⟩:=bh j _ hx;clear bh;subst ez;simp only at d0 d1;have dh:K.drop j=(xa,xb)::K.drop (j+1):=by obtain⟨U,h2⟩:=sG.1 hx;rw[List.drop_eq_getElem_cons U,h2]
          have cd:=aa.out;rw[dh]at cd;obtain⟨p2,di,dj,dp⟩:=Xl cd;have bn:=Hd di;have eb:=Hd dj;have bt:Hid (p2.1<=100000/\p2.2.1.length<=100000/\p2.2.2.length<=1000000):=Hd (by obtain⟨g1,g2,g3⟩:=dp;obtain⟨U,h2,h3,h4⟩:=c8.out;omega)
          have d5:Hid (xa<=g.R.length/\xb<=1000000):=Hd (J.items K (mG aq) _ (mG hx));have b5:=Hd (Ah.new ak 256 #[xa,xb]);have ao:Hid (CZ R w3 wz (ak.alloc (nO #[xa,xb] 256)) I fb n n vv (nC (nJ ⟨bL,oL,nK⟩) n cL) rv ad uv cv (nC Ab n cb) av ev g (Gz.Ca L 0) P ((List.replicate l 0).set 0 1++List.replicate (nq-l) 0) ED b2 (FR.map (·.2)) i nq a1):=Hd (ab.later (DE ak _));clear hx dh cd di dj dp aa;go_upto_region 22 with fail
          generalize ak.alloc (nO #[xa,xb] 256)=a8 at *;generalize ak.heap.size=bx at *;clear d0 d1 f5;obtain⟨⟨A',c',e1,hc⟩,-,-⟩:Bv a8 _ (Gz.Ca L 0):=G4 ao.Bw.FQ (by rw[He,HN.out];omega);obtain⟨bb,ob,ey,de,bf⟩:=hc i b0 cs;have e2:Ab=A':=by cases e1;rfl
          subst e2;subst ey;clear hc e1;have y9:nQ a8 (I,9)=nJ (nC (bb,ob) n cb):=by obtain⟨x0,x1,x2,x3,rfl⟩:=ao.Bw.vf;exact Ah.cell ao.Bw.Ap 9
          have yl:=ao.Bw.Ap.lt;have x0:nQ a8 (bx,0)=nJ (nE nM xa):=Ah.cell b5 0;have x1:nQ a8 (bx,1)=nJ (nE nM xb):=Ah.cell b5 1;have xl:=b5.lt;have fu:(i:Int)<(n:Int):=by omega
          have g7:IntKind.i64.wrap ((b0:Int)+(j:Int))=(b0:Int)+(j:Int):=by rw[IntKind.wrap_i64];omega
          have ea:Hid (() 151 #[(I,0),i,nE nM ((b0:Int)+(j:Int)),.agg #[xa,xb]] a8.drew (O8 R w3 a8.drew I fb n n vv (nC (nJ ⟨bL,oL,nK⟩) n cL) rv ad uv cv (nC (bb,ob) n cb) g (Gz.Ca L 0) ((List.replicate l 0).set 0 1++List.replicate (nq-l) 0) (FR.map (·.2)) i nq p2)):=Hd (by have h:=gQ au J.Pz (ao.later ((Below.refl _ a8).drew)).Xg (by rw[ee.out];exact a7) (by rw[HN.out];exact a7) d5.1 d5.2 bn bt.1 bt.2.1 bt.2.2;rw[Int.natCast_add]at h;exact h)
          have en:Hid ((fun(v:nS)=>nQ v (I,9)=nJ (nC (bb,ob) n cb)/\nQ v (bb,ob+i)=nJ (nE nM b0)/\nQ v (bx,0)=nJ (nE nM xa)/\nQ v (bx,1)=nJ (nE nM xb)) a8.drew):=Hd ⟨y9,bf,x0,x1⟩;clear bf y9 x0 x1 de
          go_region_held3 (fun(v:nS)=>nQ v (I,9)=nJ (nC (bb,ob) n cb)/\nQ v (bb,ob+i)=nJ (nE nM b0)/\nQ v (bx,0)=nJ (nE nM xa)/\nQ v (bx,1)=nJ (nE nM xb))
           (first|exact en|exact eo)
           (first|(
               go_at_call 151;refine ea.mono ?_;rintro e e4 ⟨rfl,es,ew,P5,e5,e6,ah⟩
               have eg:=Hd ah;have eo:Hid ((fun(v:nS)=>nQ v (I,9)=nJ (nC (bb,ob) n cb)/\nQ v (bb,ob+i)=nJ (nE nM b0)/\nQ v (bx,0)=nJ (nE nM xa)/\nQ v (bx,1)=nJ (nE nM xb)) e4):=Hd (by
                obtain⟨⟨A',c',e1,hc⟩,-,-⟩:Bv e4 _ (Gz.Ca L 0):=G4 ah.Bw.FQ (by rw[He,HN.out];omega);obtain⟨fr,g8,e2,de,bf⟩:=hc i b0 cs;subst e2;cases e1
                have hx:=ah.keeps.Ap b5.drew (.inr mT);refine⟨?_,bf,Ah.cell hx 0,Ah.cell hx 1⟩;obtain⟨x0,x1,x2,x3,rfl⟩:=ah.Bw.vf;exact Ah.cell ah.Bw.Ap 9)
               clear ah))
          go_wp2_with fail
          go_roundw
          case rel=>exact⟨j+1,es,ew,P5,e5,e6,p2,_,mR,mY,eg,eb⟩
          case measure=>simp[intOf];omega
        · obtain rfl:j=lk:=by omega
          have fe:a1=q:=by
           have h:=aa.out;rw[List.drop_of_length_le (by rw[ar.out];exact AF _)]at h;unfold Gz.EI at h;cases h
           rfl
          subst fe;go_wp2_with fail
          go_roundw
          case rel=>
           refine⟨i+1,a1.1,av,ev,P,ED,b2,F0++[a1.2.1],mR,mY,Hd ?_,Hd ⟨ab.len,AY p.2.1 c8.1,by rw[BS,p.2.2.1];rfl,?_⟩,Hd ?_⟩
           ·have h:=ab.Bw
            rw[ab.len,List.append_assoc,List.replicate_append_replicate]at h;rw[show nq-l+(a1.1-nq)=a1.1-l by have:=p.2.1;have:=c8.1;omega]at h;exact h
           ·rw[ab.rows,p.2.2.2,show n-i=(n-(i+1))+1 by omega,kT _ _ _ _ _ p.2.2.1]
           ·rw[ab.JG]
            exact bn
          case measure=>simp[intOf];omega
     · obtain rfl:n=i:=by omega
       have c9:=HE.out;rw[List.drop_of_length_le (by rw[HN.out];exact AF _)]at c9;unfold Gz.B4 at c9;cases c9
       have cy:Hid ((List.replicate l 0).set 0 1++List.replicate (n0-l) 0=(List.replicate n0 0).set 0 1):=Hd (by rw[WY l (n0-l) cj,show l+(n0-l)=n0 by have:=p.2.1;omega])
       have ec:Hid (FR.map (·.2)=FF):=Hd (by rw[p.2.2.2,Nat.sub_self];simp);have a4:=Hd p.1;have a6:=Hd t;rw[cy.out]at a6;have d3:=Hd (eE a6 (by rw[a4.out];exact J.fit) a6.vf (by rw[a4.out];exact AY J.B7.1 mT) (by have h:=J.B7.2.2;rw[lM]at h;exact h) J.spread);have ef:=Hd p.2.2.1;clear p cy t HE;go_wp2_with
        (
         go_at_call 152
         refine d3.mono ?_;rintro e a2 ⟨rfl,ds⟩;have b6:=Hd ds;clear ds)
       clear d3 a6 bw;have e9:Hid (∀y,Below a2 a2 y->Mk R w3 y I fb n n vv (nC AL n cL) rv ad uv cv (nC Ab n cb) av ev g (Gz.Ca L 0) P A ED FR):=Hd (fun y hy=>b6.later hy);have ek:Hid (∀y,Below a2 a2 y->∀j,j<n->() 153 #[(I,0),nE nM j] y (MW y (g.nt+1) (g.II A (g.CJ (L.getD j []) ((Gz.Ca L 0).getD j 0)++FF.getD j [])))):=Hd (fun y hy j hj=>by
        obtain⟨K,o⟩:∃K,L[j]?=nJ K:=⟨_,eG (by rw[HN.out];exact hj)⟩
        have f4:L.getD j []=K:=by rw[dG,o];rfl
        have f1:(FR.map (·.2)).length=n:=by rw[lM];exact b6.fin.len
        obtain⟨⟨fv,F⟩,hF⟩:∃x,FR[j]?=nJ x:=⟨_,eG (by rw[<-lM (f:=(·.2)),f1];exact hj)⟩
        have d9:FF[j]?=nJ F:=by rw[<-ec.out,pG,hF];rfl
        have f0:FF.getD j []=F:=by rw[dG,d9];rfl
        rw[f4,f0];obtain⟨ff,fg⟩:=J.rules F (mG d9);refine iZ au J.Pz (e9 y hy) o (J.items K (mG o)) hF (by rw[a4.out];exact fg) ff (by rw[a4.out];exact J.B7.1) ?_;rw[a4.out,dG,Mz L 0 j K o];have U:=OF o;have h2:=Lz L (j+1);have h3:=(L3 _ _ _ _ J.Ex).1;simp only[Option.getD_some]at U h2 h3 ⊢;omega)
       go_loopw [11,103] (fun ov jj wr=>∃(j:Nat) (Z:List (nU×List (Nat×Nat))),j<=n/\jj=nE nM j/\Hid (FB a2 wr (g.nt+1) ov Z)/\Hid (Z.map (·.2)=(List.range j).map fun s=>g.II A (g.CJ (L.getD s []) ((Gz.Ca L 0).getD s 0)++FF.getD s []))) (fun ov jj _=>n-(intOf jj).toNat)
       case atStart=>exact⟨0,[],A0 _,rfl,Hd (FB.start _ _),Hd rfl⟩
       case round=>
        rename nS=>cn
        obtain⟨j,Z,hj,rfl,HZ,bc⟩:=hrel;obtain⟨Az,cz,fk⟩:=CS HZ.row;subst fk;have cl:Z.length=j:=by have h:=congrArg List.length bc;simpa using h
        have aw:=Hd cl;rw[cl];clear cl;by_cases a7:j<n
        · obtain⟨lj,cf⟩:∃cm,g.II A (g.CJ (L.getD j []) ((Gz.Ca L 0).getD j 0)++FF.getD j [])=cm:=⟨_,rfl⟩
          have b7:=Hd (ek cn HZ.below j a7);rw[cf]at b7;have ej:=Hd cf;clear cf;obtain⟨ll,dv⟩:∃cm,lj.length=cm:=⟨_,rfl⟩
          unfold MW at b7;rw[dv]at b7;go_wp2_with (first
           | (
             go_at_call 153;refine b7.mono ?_;rintro e bj ⟨ae,ag,d6,rfl,ck,ai⟩
             have fp:=Hd ai.below;have f8:d6.length=ll:=by rw[<-dv,<-ck,lM]
             have ei:Hid (Fj a2.heap.size bj (g.nt+1) (nC ae ll ag) lj):=Hd ⟨d6,ck,DW (base':=a2.heap.size) ai.row HZ.below.size,fun z hz=>DW (base':=a2.heap.size) (ai.own z hz) HZ.below.size⟩;have bl:Hid (Below cn cn (bj.alloc (nO #[nC ae ll ag] 156))):=Hd (ai.below.alloc ai.below.size _);clear ck ai f8)
           | (
             at_builtin;refine Du bW (.tmp 106) (.tmp 110) rfl rfl (base:=a2.heap.size) (n:=j) (m:=1) (N:=j+1) (xs:=Z.map (·.1)) (news:=[nC ae ll ag]) rfl rfl (AV (by have h:=HZ.row;rw[aw.out]at h;exact h) bl) (Ba.Ap (c:=1) (cs:=[nC ae ll ag]) (Ah.new bj 156 _) rfl mZ) rfl mW mR (by have U:=HZ.below.size;have h2:=bl.size;omega) ?_
             intro cp d7 fm q1 q2 q3;have er:Hid (FB a2 fm (g.nt+1) (nC cp (j+1) d7) (Z++[(nC ae ll ag,lj)])):=Hd (by have h:=(HZ.later bl).more (tv:=nC ae ll ag) (l:=lj) (ei.later (DE bj _)) (A:=cp) (c:=d7) (by rw[aw.out];exact q1) q2;rw[aw.out]at h;exact h)
             clear q1 q2 q3))
          go_roundw
          case rel=>exact⟨j+1,_,mR,mY,er,Hd (by rw[Bz,bc.out,List.range_succ,Bz];simp only[List.map_cons,List.map_nil];rw[ej.out])⟩
          case measure=>simp[intOf];omega
        · obtain rfl:n=j:=by omega
          go_wp2_with fail
          go_ret2
          refine⟨_,rfl,?_,?_⟩
          ·rw[TI g A L _ FF (He _ _) (by rw[ef.out,HN.out]),HN.out,<-bc.out,<-aw.out]
           have fz:=au.gn.fit.nt;have fy:=au.gn.fit.nr;refine HZ.Wq (by rw[aw.out];omega) (fun z hz=>?_) mR (AY al.size b6.below.size);have hm:z.2∈Z.map (·.2):=List.mem_map_of_mem hz;rw[bc.out]at hm;obtain⟨k,hk,e⟩:=List.mem_map.1 hm;rw[<-e];exact AY (ZH _ _ _) mR
          ·have U:=al.out
           have h2:=U.trans (b6.below.mono U.size);exact h2.trans (HZ.below.mono h2.size)
def Kg{e:TypeId}{s n:Nat}{xs:List nU}(h:w.ownsRow B e s v n xs)(p:Aj X w w')(o:∀b,B<=b->¬X b):w'.ownsRow B e s v n xs:=
 p.own h (fun b i=>o b (by
  rcases Bg h with⟨j,_⟩|⟨t,c,j,l,_⟩
  ·rw[j]at i;cases i
  ·rw[j]at i;cases i;exact l))
def LZ.past{V:List (nU×nU)}(h:LZ B w v V L E)(p:Aj X w w')(o:∀b,B<=b->¬X b):Fu w' v V L E:=by
 have C:=Kg h.rows p o;obtain⟨⟨A,c,rfl,U,a0⟩,I,J,P,R⟩:=h.GC;refine⟨⟨A,c,rfl,U,fun k x i=>?_⟩,I,fun k x l i j=>CK.own (Kg (h.items k x l i j) p o) (J k x l i j).short,fun k x l i j=>CK.own (Kg (h.trans k x l i j) p o) (P k x l i j).short,R⟩;rcases Bg C with⟨t,e2⟩|⟨b,c',t,h6,T,_⟩
 ·have:=(sG.1 i).1
  omega
 ·cases t
  have:=LC C i;exact⟨b,0,rfl,T,by simpa using this⟩
def MB.past{m:Nat}{l:List (List (Nat×Nat))}(h:MB B w m v l)(hm:m<=1000000)(p:Aj X w w')(o:∀b,B<=b->¬X b):Is w' m v l:=by
 obtain⟨h1,Z,rfl,h2,h3⟩:=h;obtain⟨Ad,c,hv,hn,C,T⟩:=id h1;rw[lM]at C T;have hl:∀(k:Nat) (z:nU×List (Nat×Nat)),Z[k]?=nJ z->z.2.length<=1000000:=fun k z i=>by
  obtain⟨b,off,_,_,_,R⟩:=T k (sG.1 i).1;obtain⟨x,_,hx⟩:=R 0 mT;have t:(Z.map (·.2)).getD k []=z.2:=by rw[dG,pG,i];rfl
  have U:GF w m x ((Z.map (·.2)).getD k []):=hx;rw[t]at U;obtain⟨_,_,_,_,J,_⟩:=id U;exact J
 have I:=Kg h2 p o;unfold Is;rw[lM];rcases Bg I with⟨e1,e2⟩|⟨b,c,rfl,J,P,h7,_,a1,hb⟩
 ·exact⟨nK,0,by rw[e1,e2],mR,C,fun k i=>by omega⟩
 ·refine⟨_,c,rfl,h7,C,fun k i=>⟨b,0,rfl,P,P,fun a0 R=>?_⟩⟩
  obtain⟨z,j⟩:∃z,Z[k]?=nJ z:=⟨_,eG i⟩
  obtain rfl:a0=0:=by omega
  have t:(Z.map (·.2)).getD k []=z.2:=by rw[dG,pG,j];rfl
  refine⟨z.1,?_,?_⟩
  ·rw[Nat.zero_add,Nat.mul_one,Nat.add_zero,Bb I k mR,pG,j];rfl
  ·show GF w' m z.1 _
   rw[t];obtain⟨Y,y1,y2,y3⟩:=h3 z (mG j);exact Fj.TR (B:=B) ⟨Y,y1,Kg y2 p o,fun y hy=>Kg (y3 y hy) p o⟩ (hl k z j) hm
def GV(w:nS)(v:nU)(g:Gz)(L E:List (List It))(K:List (List (Nat×Nat))):Prop:=∃j i V,v=.agg #[g.R.length,j,i]/\Fu w j V L E/\Is w (g.nt+1) i K
def GV.later{K:List (List (Nat×Nat))}(h:GV w v g L E K)(i:Below w w w'):GV w' v g L E K:=by obtain⟨t,p,V,j,l,o⟩:=h;exact⟨t,p,V,j,l.later i,o.later i⟩
def VM(t:GN w v g){f f2 f3:Nat}(ha:g.J8 f=nJ (L,E)){o:List (List It)}(hi:IU g L E f2 f3 Em C T CC n0 o ed A) :
  () 78 #[v] w fun e w'=>∃mv,e=nP (.tuple #[mv,nE nM 0])/\GV w' mv g L E (g.Hz A L (Gz.Ca L 0) o)/\Below w w w':=by
 have a7:Hid (∀y,Below w w y->() 114 #[v] y fun e w'=>∃lv V,e=nP (.tuple #[lv,nE nM 0])/\LZ y.heap.size w' lv V L E/\Below y y w'):=Hd (fun y hy=>RB (t.later hy) ha);have a9:Hid (∀y,Below w w y->() 115 #[v] y (PL y (g.nt+1) (g.Hz A L (Gz.Ca L 0) o))):=Hd (fun y hy=>eO (t.later hy) ha hi);obtain⟨P,cT,I,cN,J,cR,rfl,-,-⟩:=t.open_;have a8:=Hd (Ah.new w 58 #[nC P g.nt cT,nC I g.nn cN,nC J g.R.length cR,g.s]);have a0:=Hd (AE w (nO #[nC P g.nt cT,nC I g.nn cN,nC J g.R.length cR,g.s] 58))
 have a2:=Hd (a8.alloc (nO #[nE nM 0,nC nK 0 0,nC nK 0 0] 139));have a4:=Hd (Ah.new (w.alloc (nO #[nC P g.nt cT,nC I g.nn cN,nC J g.R.length cR,g.s] 58)) 139 #[nE nM 0,nC nK 0 0,nC nK 0 0]);have R:=Hd (a0.alloc a0.size (nO #[nE nM 0,nC nK 0 0,nC nK 0 0] 139));have aa:=Hd t.fit.nt;clear t ha hi;go_enter Tryz.func78,Tryz.ntmps78
 go_wp2_with (first
  | (
    go_at_call 114;refine(a7 _ R).mono ?_;rintro e w2 ⟨lv,V,rfl,hA,p⟩
    obtain⟨⟨AL,cL,ad,-⟩,-⟩:=id hA.GC;subst ad;have HA:=Hd hA;have a6:=Hd p.size;have U:=Hd (R.trans (p.mono R.size));have i:=Hd (a2.below p a2.lt);have a3:=Hd (a4.below p a4.lt);have g0:=Ah.cell i 0;have g1:=Ah.cell i 1;have g2:=Ah.cell i 2;have g3:=Ah.cell i 3;simp at g0 g1 g2 g3;clear hA p)
  | (
    go_at_call 115;refine(a9 _ U).mono ?_;rintro e w3 ⟨lo,rfl,hl,j⟩
    obtain⟨Ao,co,ab,-⟩:=id hl.1;subst ab;have HL:=Hd hl;have a5:=Hd (Aj.AJ (X:=fun _=>False) j);have a1:=Hd (U.trans (j.mono U.size));have l:=Hd (a3.below j a3.lt);have x0:=Ah.cell (i.below j i.lt) 0;have x1:=Ah.cell (i.below j i.lt) 1;have x2:=Ah.cell (i.below j i.lt) 2;have x3:=Ah.cell (i.below j i.lt) 3;simp at x0 x1 x2 x3;have m0:=Ah.cell l 0;have m1:=Ah.cell l 1;have m2:=Ah.cell l 2;have ml:=l.lt;have ae:=Ah.frozen l 0;have af:=Ah.frozen l 1
    have ag:=Ah.frozen l 2;simp at m0 m1 m2 ml ae af ag;clear hl j))
 (try simp only[Exit.inBlock,Exit.then])
 refine bodyPost_ret (v:=.tuple #[.agg #[g.R.length,nC AL V.length cL,nC Ao (g.Hz A L (Gz.Ca L 0) o).length co],nE nM 0]) ?_ rfl ?_
 ·rw[results_cell_tmp rfl]
  go_simp
 ·have HC:Hid (Aj (·=w.heap.size+1) w3 (((w3.setCell (w.heap.size+1,0) g.R.length).setCell (w.heap.size+1,1) (nC AL V.length cL)).setCell (w.heap.size+1,2) (nC Ao (g.Hz A L (Gz.Ca L 0) o).length co))):=Hd (Aj.set (X:=(·=w.heap.size+1)) (Aj.set (X:=(·=w.heap.size+1)) (Aj.set (X:=(·=w.heap.size+1)) (Aj.refl _ w3) (p:=⟨w.heap.size+1,0,nK⟩) (.inr rfl) _) (p:=⟨w.heap.size+1,1,nK⟩) (.inr rfl) _) (p:=⟨w.heap.size+1,2,nK⟩) (.inr rfl) _)
  refine⟨_,rfl,⟨_,_,V,rfl,?_,?_⟩,?_⟩
  ·refine HA.past ((a5.mono (fun _ h=>h.elim)).next HC) (fun b hb e=>?_)
   simp at hb;omega
  ·refine HL.past (by have:=aa.out;omega) HC (fun b hb e=>?_)
   have h2:=a6.out;simp at h2;omega
  ·exact a1.trans ((HC.below (AY a1.size (AF _)) (fun k hk e=>by omega)))
