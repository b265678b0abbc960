/- . -/
import Derived.Test.YtendpobbjjaopaaGreatDoorXao
import Derived.Test.YtendpobbjjaopaaGreatDoorXac
import Derived.Test.YtendpobbjjaopaaGreatDoorXnm
set_option linter.all false
set_option maxRecDepth 100000
set_option maxHeartbeats 16000000
namespace Go.Proofs.YtendpobbjjaopaaGreatDoor
open Go.RowKit
open Value renaming slice→oG,int→oH,pointer→oI,bool→oK
open Option renaming some→oM,none→oN
open IntKind renaming i64→oO
open Obj renaming cells→oP
open Ending renaming returned→oQ
open World renaming cell?→oT
open Go renaming World→oU
def Y2{w:oU}{v:Value}{g:Gz}(h:GN w v g){f E:Nat}{C:List Nat}(hr:Lp g f=oM (E,C)):() 180 #[v] w fun e w'=>∃F:Fs,e=oQ (F.q,0)/\BC w w' F g E C:=by
 have U:=h.fit;have de:=U.nr;have bw:Hid (∀y,Below w w y->() 124 #[v] y fun e w'=>e=oQ (oH oO 0)/\Below y y w'):=Hd (fun y o=>Pq (h.later o));have bl:Hid (∀y,Below w w y->() 129 #[v] y fun e w'=>e=oQ g.top/\Below y y w'):=Hd (fun y o=>LJ (h.later o));have d6:=Hd h;obtain⟨AT,cT,AN,cN,AR,cR,rfl,hc,d9⟩:=h.open_;have HG:=Hd (Ah.new w 47 #[oG AT g.nt cT,oG AN g.nn cN,oG AR g.R.length cR,g.s]);have bh:=Hd (AG w (oP #[oG AT g.nt cT,oG AN g.nn cN,oG AR g.R.length cR,g.s] 47))
 have cr:=Hd hc;clear h hc;go_enter Tryz.func180,Tryz.ntmps180
 go_upto_region 3 with(go_at_call 124;refine(bw _ bh).mono ?_;rintro e w1 ⟨rfl,an⟩;have ag:=Hd an;clear an)
 go_cut [3] (fun p wx=>∃b:Nat,p=oI (oM ⟨b,0,oN⟩)/\Hid (Ah wx b 296 #[g.nt,g.top]/\Below w w wx/\w.heap.size<b/\Ah wx w.heap.size 47 #[oG AT g.nt cT,oG AN g.nn cN,oG AR g.R.length cR,g.s]))
 case first=>
  have ak:=Hd (bh.trans (ag.mono bh.size));have a5:=Hd (HG.below ag HG.lt);obtain⟨z0,z1,z2,z3⟩:oT w1 (w,0)=oM (oG AT g.nt cT)/\oT w1 (w,1)=oM (oG AN g.nn cN)/\oT w1 (w,2)=oM (oG AR g.R.length cR)/\oT w1 (w,3)=oM (oH oO g.s):=⟨a5.cell 0,a5.cell 1,a5.cell 2,a5.cell 3⟩
  have az:=ak.size;have cl:=a5.lt;have cz:=Hd (bl w1.drew ak.drew);have d0:=Hd (bl ((w1.alloc (oP #[oH oO 0,oH oO 0] 296)).drew) ((ak.alloc az _).drew));have HZ:Hid (Ah (w1.alloc (oP #[oH oO 0,oH oO 0] 296)).drew w1.heap.size 296 #[oH oO 0,oH oO 0]):=Hd (Ah.drew (Ah.newAt rfl));go_region_law (first
   | (
     go_simp;go_at_call 129;first
       | (
          with_reducible refine cz.out.mono ?_
          rintro e w2 ⟨rfl,a1⟩;have b1:=Hd a1;have a6:=Hd (Ah.below (g:=w.heap.size) (Ah.drew a5) a1 cl);have a0:=Hd (ak.drew.trans (a1.mono az));have y0:=a6.cell 0;have cn:=a6.lt;simp at y0;clear a1)
       | (
          with_reducible refine d0.out.mono ?_
          rintro e w2 ⟨rfl,a1⟩;have b1:=Hd a1;have al:=Hd (HZ.below a1 HZ.lt);have k0:=al.cell 0;have k1:=al.cell 1;have k2:=al.frozen 0;have k3:=al.frozen 1;have a6:=Hd (Ah.below (g:=w.heap.size) (Ah.drew (Ah.alloc a5 (oP #[oH oO 0,oH oO 0] 296))) a1 oC);have a0:=Hd (((ak.alloc az (oP #[oH oO 0,oH oO 0] 296)).drew).trans (a1.mono oC));have y0:=a6.cell 0;have cn:=a6.lt;simp at k0 k1 y0;clear a1)))
  all_goals go_wp2_with fail
  all_goals go_meet
  all_goals first
   | exact⟨w2.heap.size,rfl,Hd ⟨Ah.newAt rfl,a0.alloc a0.size _,cn,a6.alloc _⟩⟩
   | exact⟨w1.heap.size,rfl,Hd ⟨(al.Ba 0 g.nt).Ba 1 g.top,(a0.setCell (p:=⟨w1.heap.size,0,oN⟩) az _).setCell (p:=⟨w1.heap.size,1,oN⟩) az _,cl,(a6.Bz (p:=⟨w1.heap.size,0,oN⟩) (by show w.heap.size≠w1.heap.size;omega) _).Bz (p:=⟨w1.heap.size,1,oN⟩) (by show w.heap.size≠w1.heap.size;omega) _⟩⟩
 case rest=>
  obtain⟨b,rfl,HB⟩:=hcut;rename oU=>W
  have cg:=HB.2.1.size;have ba:=HB.1.lt;have d2:=HB.2.2.1;have cv:Hid (∀y,() 184 #[oH oO ((g.top:Int)+1)] y fun e w'=>e=oQ (y.heap.size+1,0)/\AQ w' ⟨y.heap.size+1,y.heap.size,g.top+1⟩ 0/\Below y y w'):=Hd (fun y=>Mm (w:=y) (n:=g.top+1) nX (by have:=U.nt;have:=U.nn;unfold Gz.top;omega));have ct:Hid (∀y,() 214 #[oH oO ((g.top:Int)+1),oH oO ((g.nt:Int)+1)] y fun e w'=>∃Ao co b8,e=oQ (oG Ao (g.top+1) co)/\JS y.heap.size w'.heap.size w' (g.nt+1) (g.top+1) (oG Ao (g.top+1) co) b8/\Below y y w'):=Hd (fun y=>(eJ (w:=y) (k:=g.top+1) (n:=g.nt+1) (by have:=U.nt;have:=U.nn;unfold Gz.top;omega) nX (by have:=U.nt;omega)).mono (by
   rintro e w' ⟨di,he,hf⟩;obtain⟨b8,hP⟩:=hf.at_;obtain⟨Ao,co,rfl⟩:=hP.row;exact⟨Ao,co,b8,he,hP,hf.below⟩))
  go_upto_region 4 with fail
  go_cut [4] (fun p wx=>∃F:Fs,p=(F.q,0)/\Hid (BC w wx F g 0 (List.replicate (2*(g.top+1)) 0)/\Ah wx w.heap.size 47 #[oG AT g.nt cT,oG AN g.nn cN,oG AR g.R.length cR,g.s]/\Ah wx b 296 #[g.nt,g.top]/\w.heap.size<F.q))
  case first=>
   have k0:=HB.1.cell 0;have k1:=HB.1.cell 1;simp at k0 k1;have HK:Hid (∀y,Below W W y->oT y ⟨b,0,oN⟩=oM (oH oO g.nt)/\oT y ⟨b,1,oN⟩=oM (oH oO g.top)):=Hd (fun y o=>⟨(HB.1.below o ba).cell 0,(HB.1.below o ba).cell 1⟩);have a0:Hid (Below W W W.drew):=Hd ⟨rfl,rfl,rfl,Ay _,fun _ _=>rfl⟩;have dg:W.drew.heap.size=W.heap.size:=rfl;have db:IntKind.i64.wrap ((g.top:Int)+1)=(g.top:Int)+1:=by rw[IntKind.wrap_i64];have:=U.nt;have:=U.nn;unfold Gz.top;omega
   have dc:IntKind.i64.wrap ((g.nt:Int)+1)=(g.nt:Int)+1:=by rw[IntKind.wrap_i64];have:=U.nt;omega
   go_region_held3 (fun y=>oT y ⟨b,0,oN⟩=oM (oH oO g.nt)/\oT y ⟨b,1,oN⟩=oM (oH oO g.top))
    (first|exact HK _ a0|exact HK _ (a0.alloc nX _))
    (first
      | (
         go_at_call 184
         refine(cv _).mono ?_;rintro e w2 ⟨rfl,hs,hb⟩;have HE:=Hd hs;have d3:=hs.words.lt;have d4:=hb.size;have ah:=Hd (a0.trans (hb.mono a0.size))
         (try (have af:=Hd (HA.later hb);clear HA;have HA:=af;clear af))
         (try (have c0:=Hd (HD.later hb);clear HD;have HD:=c0;clear c0))
         clear hs hb a0;have a0:=ah;clear ah)
      | (
         go_at_call 214
         refine(ct _).mono ?_;rintro e w2 ⟨Ao,co,b8,rfl,hf,hb⟩;have d4:=hb.size;have ah:=Hd (a0.trans (hb.mono a0.size))
         (try (have c7:=Hd (HE.later hb);clear HE;have HE:=c7;clear c7))
         first
           | (have af:=Hd (HA.later hb);clear HA;have HA:=af;clear af;have HD:=Hd hf)
           | (have HA:=Hd hf)
         clear hf hb a0;have a0:=ah;clear ah))
   go_wp2_with fail
   go_meet
   have b9:=a0.out;have d1:=b9.size;refine⟨⟨w2.heap.size,⟨W.heap.size+1,W.heap.size,g.top+1⟩,_,_,_⟩,rfl,Hd ⟨BC.make (Ah.newAt rfl) (HE.later (AG _ _)) rfl (by have:=U.nt;have:=U.nn;unfold Gz.top;omega) (HA.later (AG _ _)) (HD.later (AG _ _)) (HB.2.1.trans ((b9.alloc d1 _).mono cg)) ?_ ?_ ?_ ?_,((HB.2.2.2.below b9 nX).alloc _),(HB.1.below b9 ba).alloc _,?_⟩⟩;all_goals (try simp only at d3 ⊢)
   all_goals omega
  case rest=>
   obtain⟨F,rfl,HF⟩:=hcut;rename oU=>W2
   have HX:Hid (∀y,Am (XS F) W2 y->(oT y (w,2)=oM (oG AR g.R.length cR)/\oT y (w,3)=oM (oH oO g.s))/\oT y ⟨b,0,oN⟩=oM (oH oO g.nt)):=Hd (fun y o=>by have z:=o.Aj HF.2.1 (HF.1.no HF.2.1 nY);have z2:=o.Aj HF.2.2.1 (HF.1.no HF.2.2.1 nY);exact⟨⟨z.cell 2,z.cell 3⟩,z2.cell 0⟩)
   obtain⟨⟨x2,x3⟩,x4⟩:=HX W2 (Am.refl _ _);have c8:Hid (BC w W2 F g 0 (Gt g 0)):=Hd (by rw[lS];exact HF.1);have d7:=HF.1.at_.Ih;obtain⟨bg,bc,hg,cj,bb,cm,d8,da⟩:=HF.1.at_.open_;have df:=U.nt;have dd:=U.nn;have dh:g.top=g.nt+g.nn:=rfl;clear HF ba cg d2;go_wp2_with fail
   go_loopw [48] (fun ii wr=>∃a2:Nat,a2<=g.nt+1/\ii=oH oO a2/\Hid (BC w wr F g 0 (Gt g a2))/\Hid (Am (XS F) W2 wr)) (fun ii _=>g.nt+1-(intOf ii).toNat)
   case atStart=>exact⟨0,AX _,rfl,c8,Hd (Am.refl _ _)⟩
   case round=>
    obtain⟨a2,hj,rfl,HS,HC⟩:=hrel;by_cases au:a2<g.nt+1
    · obtain⟨p,hp⟩:∃p,F.P[a2]?=oM p:=⟨_,eG nX⟩
      have cx:Hid (() 132 #[(p.h,0),a2] wr fun e w'=>(∃b,e=oQ (oK b))/\BC w w' F g 0 (Gt g (a2+1))/\Am (XS F) W2 w'):=Hd ((HS.put hp au).mono (by rintro e w' ⟨he,j,I⟩;rw[cE nX]at j;exact⟨he,j,HC.next I⟩))
      obtain⟨-,-,-,q3,-⟩:=HS.at_.cells;rw[bb]at q3;have q5:=HS.at_.Nl bb hp nX;clear hp;go_wp2_with (go_at_call 132;refine cx.mono ?_;rintro e w' ⟨⟨b',rfl⟩,j,I⟩;have H1:=Hd j;have H2:=Hd I;clear j I)
      go_roundw
      case rel=>exact⟨a2+1,nX,oD,H1,H2⟩
      case measure=>simp[intOf];omega
    · obtain rfl:a2=g.nt+1:=by omega
      rw[nK]at HS;obtain⟨E1,C1,an,a1⟩:∃E1 C1,Gh g f 0 (J3 g)=oM (E1,C1)/\(match Fq g E1 (g.top+1) f (C1.set (g.top+1+g.s) (C1.getD (g.top+1+g.s) 0|||1)) with|none=>oN|some R=>oM (E1,R))=oM (E,C):=by
        unfold Lp at hr;split at hr
        · cases hr
        · rename_i E1 C1 j
          exact⟨E1,C1,j,hr⟩
      have b1:=Hd a1;have ag:=Hd an;clear an a1 hr c8 bl bw x4;have bx:Hid (∀k i l,g.R[k]?=oM (i,l)->∃b0 off P T,AR=oM ⟨b0,off,oN⟩/\(i<=g.top/\∀x∈l,x<=g.top)/\∀y,Below w w y->oT y ⟨b0,off+k*2,oN⟩=oM (oH oO i)/\oT y ⟨b0,off+k*2+1,oN⟩=oM (oG P l.length T)/\BF y (oG P l.length T) l):=Hd (fun k i l hk=>by obtain⟨b0,off,rv,hA,cp,e0,e1,hn⟩:=cr k _ hk;obtain⟨⟨P,T,hv,-⟩,-,-⟩:=id hn;subst hv;have hm:=mG hk;exact⟨b0,off,P,T,hA,⟨(U.left _ hm).2,fun x hx=>(U.right _ hm x hx).2⟩,fun y o=>⟨(o.cell (p:=⟨b0,off+k*2,oN⟩) cp).trans e0,(o.cell (p:=⟨b0,off+k*2+1,oN⟩) cp).trans e1,hn.later o⟩⟩)
      go_wp2_with fail
      go_loopg [6] f (fun n mo wr=>∃(m:Bool) (t:Nat) (R:List Nat),mo=oK m/\Hid (BC w wr F g t R)/\Hid (Am (XS F) W2 wr)/\Hid ((m=true->Gh g n t R=oM (E1,C1))/\(m=false->t=E1/\R=C1)))
      case atStart=>exact⟨true,0,J3 g,rfl,HS,HC,Hd ⟨fun _=>ag,fun h=>by cases h⟩⟩
      case round=>
        obtain⟨m,t,R,rfl,ab,b2,HL⟩:=hrel;rename oU=>w5
        obtain⟨⟨x2,x3⟩,-⟩:=HX w5 b2;cases m with
        | true=>
          cases gk with
          | zero=>have h0:=HL.1 rfl;rw[Gh]at h0;cases h0
          | succ n=>
            obtain⟨E2,C2,m2,aw,av⟩:∃E2 C2 m2,DA g.R t R false=(E2,C2,m2)/\((m2=true->Gh g n E2 C2=oM (E1,C1))/\(m2=false->E2=E1/\C2=C1)):=by
             have h0:=HL.1 rfl;rw[Gh]at h0;generalize DA g.R t R false=bm at *;obtain⟨E2,C2,m2⟩:=bm;refine⟨E2,C2,m2,rfl,fun h=>?_,fun h=>?_⟩
             ·subst h;exact h0
             ·subst h
              simp only at h0;cases h0
              exact⟨rfl,rfl⟩
            have bj:=Hd aw;have bi:=Hd av;clear aw av HL;go_wp2_with fail
            go_loopw [6,65] (fun mo ii wr=>∃(k:Nat) (m:Bool) (E3:Nat) (C3:List Nat),k<=g.R.length/\ii=oH oO k/\mo=oK m/\Hid (BC w wr F g E3 C3)/\Hid (Am (XS F) W2 wr)/\Hid (DA (g.R.drop k) E3 C3 m=(E2,C2,m2))) (fun _ ii _=>g.R.length-(intOf ii).toNat)
            case atStart=>exact⟨0,false,t,R,AX _,rfl,rfl,ab,b2,bj⟩
            case round=>
             obtain⟨k,m,E3,C3,hk,rfl,rfl,a7,aa,b4⟩:=hrel;rename oU=>w6
             by_cases au:k<g.R.length
             ·obtain⟨⟨i,l⟩,hr⟩:∃r,g.R[k]?=oM r:=⟨_,eG au⟩
              obtain⟨b0,off,P,T,rfl,⟨bd,ax⟩,a8⟩:=bx k i l hr;obtain⟨e0,e1,bp⟩:=a8 w6 a7.below;have cu:Hid (∀y,Below w w y->BF y (oG P l.length T) l):=Hd (fun y o=>(a8 y o).2.2);have cy:=Hd ax;have ar:=I6 hr;rw[ar]at b4;obtain⟨p,hp⟩:∃p,F.P[i]?=oM p:=⟨_,eG nX⟩
              have ai:=Hd hp;obtain⟨J,m4,ae,bn⟩:∃J m4 ae,Dx E3 i l C3 false=(J,m4,ae):=⟨_,_,_,rfl⟩
              have b5:Hid (DA (g.R.drop (k+1)) (if ae then E3|||2 ^ i else E3) J (m||((ae&&!E3.testBit i)||m4))=(E2,C2,m2)):=Hd (by have:=b4.out;rw[DA]at this;simp only[bn]at this;exact this);have bt:=Hd (Ah.new w6 113 #[oH oO i,oG P l.length T]);have ad:=Hd (a7.later (AG w6 (oP #[oH oO i,oG P l.length T] 113)));have bu:=Hd (aa.alloc (oP #[oH oO i,oG P l.length T] 113));clear a8 bp ax hr ar hp b4 a7 aa;go_upto_region 16 with fail
              generalize w6.alloc (oP #[oH oO i,oG P l.length T] 113)=W6 at *;generalize w6.heap.size=rb at *;have a3:Hid (∀y,Am (XS F) W6 y->oT y (F.q,3)=oM (oG (bg,0) (g.top+1) bc)/\oT y ⟨bg,i,oN⟩=oM (oI (p.h,0))/\oT y (rb,0)=oM (oH oO i)/\oT y (rb,1)=oM (oG P l.length T)):=Hd (fun y o=>by obtain⟨-,-,-,q3,-⟩:=ad.at_.cells;rw[bb]at q3;have q5:=ad.at_.Nl bb ai bd;have ch:=o.Aj bt (ad.no bt nY);exact⟨ad.cell o (NO q3) q3 (fun z e=>by cases e),ad.cell o (NO q5) q5 (fun z e=>by cases e),ch.cell 0,ch.cell 1⟩)
              obtain⟨s0,s1,s2,s3⟩:=a3 W6 (Am.refl _ _);have c9:Hid (() 215 #[(F.q,0),(p.h,0),oG P l.length T] W6.drew fun e w'=>e=oQ (.tuple #[oK m4,oK ae])/\BC w w' F g E3 J/\Am (XS F) W6 w'):=Hd (by
               have aq:Below W6 W6 W6.drew:=⟨rfl,rfl,rfl,Ay _,fun _ _=>rfl⟩
               have be:=ad.later aq;have a9:=be.line ai (cu _ be.below) cy;rw[bn]at a9;refine a9.mono ?_;rintro e w' ⟨he,j,I⟩;exact⟨he,j,(Am.AJ aq).next I⟩)
              generalize bf:g.top+1=tp at *;have cd:=Hd bf;have i2:(i:Int)<(tp:Int):=by omega
              have i1:(0:Int)<=(i:Int):=by omega
              clear bf bn
              go_region_held3 (fun y=>oT y (F.q,3)=oM (oG (bg,0) tp bc)/\oT y ⟨bg,i,oN⟩=oM (oI (p.h,0))/\oT y (rb,0)=oM (oH oO i)/\oT y (rb,1)=oM (oG P l.length T))
               (first|exact a3 _ ⟨rfl,rfl,rfl,Ay _,fun _ _ _=>rfl⟩|exact a3 _ a4)
               (first|(go_at_call 215;refine c9.mono ?_;rintro e w7 ⟨rfl,ay,ao⟩;have aj:=Hd ay;have a4:=Hd ao;clear ay ao))
              clear s0 s1 s2 s3 i1 i2 c9;go_upto_region 17 with fail
              have c6:Hid (Below w7 w7 w7.drew):=Hd ⟨rfl,rfl,rfl,Ay _,fun _ _=>rfl⟩;obtain⟨-,-,q2,-,-⟩:=aj.at_.cells;obtain⟨-,-,q4,-⟩:=a3 w7 a4;have cw:Hid (() 132 #[(F.e.h,0),oH oO i] w7.drew fun e w'=>e=oQ (oK (!E3.testBit i))/\BC w w' F g (E3|||2 ^ i) J/\Am (XS F) W2 w'):=Hd (by refine((aj.later c6).Xv bd).mono ?_;rintro e w' ⟨he,j,I⟩;exact⟨he,j,((bu.next a4).next (Am.AJ c6)).next I⟩)
              have cs:Hid (∀n,BC w (w7.drewN n) F g E3 J/\Am (XS F) W2 (w7.drewN n)):=Hd (fun n=>by
               have ck:Below w7 w7 (w7.drewN n):=⟨rfl,rfl,rfl,Ay _,fun _ _=>rfl⟩
               exact⟨aj.later ck,(bu.next a4).next (Am.AJ ck)⟩)
              cases ae with
              | false=>
               go_quiet (fail)
               obtain⟨H1,H2⟩:=cs nq;have H1:=Hd H1;have H2:=Hd H2;cases m
               ·go_wp2_with fail
                refine⟨?_,?_⟩
                ·repeat apply Exists.intro
                 refine⟨?_,rfl⟩;exact⟨k+1,_,E3,J,nX,oD,rfl,H1,H2,b5⟩
                ·simp[intOf];omega
               ·go_wp2_with fail
                refine⟨?_,?_⟩
                ·repeat apply Exists.intro
                 refine⟨?_,rfl⟩;exact⟨k+1,_,E3,J,nX,oD,rfl,H1,H2,b5⟩
                ·simp[intOf];omega
              | true=>
               generalize E3.testBit i=tb at *;cases tb
               all_goals first
                | (go_region_law (first|(go_simp;go_at_call 132;refine cw.mono ?_;rintro e w8 ⟨rfl,j,I⟩;have H1:=Hd j;have H2:=Hd I;clear j I)))
                | fail
               all_goals cases m
               all_goals cases m4
               all_goals go_wp2_with fail
               all_goals refine⟨?_,?_⟩
               all_goals first
                | (simp[intOf];omega;done)
                | exact⟨_,_,_,_,_,⟨k+1,nX,rfl,.inl ⟨rfl,_,_,H1,b5⟩⟩,rfl,rfl,rfl,rfl,oD⟩
                | exact⟨_,_,_,_,_,⟨k+1,nX,rfl,.inr ⟨rfl,_,_,H1,b5⟩⟩,rfl,rfl,rfl,rfl,oD⟩
                | trace_state
             ·obtain rfl:k=g.R.length:=by omega
              have e:=b4.out;rw[List.drop_length,DA]at e;cases e
              go_wp2_with fail
              go_roundg n
              case measure=>omega
              case rel=>exact⟨m2,E2,C2,rfl,a7,aa,bi⟩
        | false=>
          obtain⟨rfl,rfl⟩:=HL.2 rfl;obtain⟨p,hp⟩:∃p,F.P[g.top+1+g.s]?=oM p:=⟨_,eG (by have:=U.start;omega)⟩
          have ai:=Hd hp;obtain⟨hE,cf⟩:t=E/\Fq g t (g.top+1) f (R.set (g.top+1+g.s) (R.getD (g.top+1+g.s) 0|||1))=oM C:=by
            have h0:=b1.out;split at h0
            ·cases h0
            ·rename_i X hX
             cases h0
             exact⟨rfl,hX⟩
          subst hE;have br:=Hd cf;have be:=U.start;clear hp cf b1 ag HL;go_upto_region 20 with fail
          have a3:Hid (∀y,Am (XS F) w5 y->oT y (F.q,4)=oM (oG (hg,0) (g.top+1) cj)/\oT y (hg,g.s)=oM (oI (p.h,0))/\oT y (w,3)=oM (oH oO g.s)):=Hd (fun y o=>by obtain⟨-,-,-,-,q4⟩:=ab.at_.cells;rw[cm]at q4;have q5:=ab.at_.Nf cm ai be.2;exact⟨ab.cell o (NO q4) q4 (fun z e=>by cases e),ab.cell o (NO q5) q5 (fun z e=>by cases e),(HX y (b2.next o)).1.2⟩)
          obtain⟨s0,s1,s2⟩:=a3 w5 (Am.refl _ _);have cb:Hid (() 132 #[(p.h,0),oH oO 0] w5.drew fun e w'=>(∃b,e=oQ (oK b))/\BC w w' F g t (R.set (g.top+1+g.s) (R.getD (g.top+1+g.s) 0|||1))/\Am (XS F) w5 w'):=Hd (by
            have aq:Below w5 w5 w5.drew:=⟨rfl,rfl,rfl,Ay _,fun _ _=>rfl⟩
            have a9:=(ab.later aq).put (x:=0) ai nX;refine a9.mono ?_;rintro e w' ⟨he,j,I⟩;exact⟨he,j,(Am.AJ aq).next I⟩)
          have cq:Hid (Fq g t (g.top+1) f (R.set (g.top+1+g.s) (R.getD (g.top+1+g.s) 0|||1))=oM C):=br;generalize R.set (g.top+1+g.s) (R.getD (g.top+1+g.s) 0|||1)=Cs at *;generalize bf:g.top+1=tp at *;have cd:=Hd bf;have i2:(g.s:Int)<(tp:Int):=by omega
          have i1:(0:Int)<=(g.s:Int):=by omega
          clear br
          go_region_held3 (fun y=>oT y (F.q,4)=oM (oG (hg,0) tp cj)/\oT y (hg,g.s)=oM (oI (p.h,0))/\oT y (w,3)=oM (oH oO g.s))
            (first|exact a3 _ ⟨rfl,rfl,rfl,Ay _,fun _ _ _=>rfl⟩|exact a3 _ a4)
            (first|(go_at_call 132;refine cb.mono ?_;rintro e w7 ⟨⟨b7,rfl⟩,ay,ao⟩;have aj:=Hd ay;have a4:=Hd ao;clear ay ao))
          have bz:=Hd (b2.next a4);obtain⟨⟨x2,x3⟩,-⟩:=HX w7 bz;clear s0 s1 s2 i1 i2 cb a3;go_wp2_with fail
          go_loopg [11] f (fun n mo wr=>∃(m:Bool) (C3:List Nat),mo=oK m/\Hid (BC w wr F g t C3)/\Hid (Am (XS F) W2 wr)/\Hid ((m=true->Fq g t tp n C3=oM C)/\(m=false->C3=C)))
          case atStart=>exact⟨true,Cs,rfl,aj,bz,Hd ⟨fun _=>cq,fun h=>by cases h⟩⟩
          case round=>
            obtain⟨m,C3,rfl,a7,aa,b3⟩:=hrel;rename oU=>w9
            obtain⟨⟨x2,x3⟩,-⟩:=HX w9 aa;cases m with
            | false=>
             obtain rfl:=b3.2 rfl;go_wp2_with fail
             go_ret;exact⟨F,rfl,a7⟩
            | true=>
             cases gk with
             | zero=>have h0:=b3.1 rfl;rw[Fq]at h0;cases h0
             | succ n=>
              obtain⟨J,m4,aw,av⟩:∃J m4,F6 g t tp g.R C3 false=(J,m4)/\((m4=true->Fq g t tp n J=oM C)/\(m4=false->J=C)):=by
               have h0:=b3.1 rfl;rw[Fq]at h0;generalize F6 g t tp g.R C3 false=bm at *;obtain⟨J,m4⟩:=bm;refine⟨J,m4,rfl,fun h=>?_,fun h=>?_⟩
               ·subst h;exact h0
               ·subst h
                simp only at h0;cases h0
                rfl
              have bj:=Hd aw;have bi:=Hd av;clear aw av b3;go_wp2_with fail
              go_loopw [11,115] (fun mo ii wr=>∃(k:Nat) (m:Bool) (C5:List Nat),k<=g.R.length/\ii=oH oO k/\mo=oK m/\Hid (BC w wr F g t C5)/\Hid (Am (XS F) W2 wr)/\Hid (F6 g t tp (g.R.drop k) C5 m=(J,m4))) (fun _ ii _=>g.R.length-(intOf ii).toNat)
              case atStart=>exact⟨0,false,C3,AX _,rfl,rfl,a7,aa,bj⟩
              case round=>
               obtain⟨k,m,C5,hk,rfl,rfl,bk,bv,b6⟩:=hrel;rename oU=>bq
               by_cases au:k<g.R.length
               ·obtain⟨⟨i,l⟩,hr⟩:∃r,g.R[k]?=oM r:=⟨_,eG au⟩
                obtain⟨b0,off,P,T,rfl,⟨bd,ax⟩,a8⟩:=bx k i l hr;obtain⟨e0,e1,bp⟩:=a8 bq bk.below;have ar:=I6 hr;rw[ar]at b6;obtain⟨C6,m6,bo⟩:∃C6 m6,EO g t tp i l C5 false=(C6,m6):=⟨_,_,rfl⟩
                have ca:Hid (F6 g t tp (g.R.drop (k+1)) C6 (m||m6)=(J,m4)):=Hd (by have:=b6.out;rw[F6]at this;simp only[bo]at this;exact this);have cc:Hid (() 216 #[(F.q,0),.agg #[oH oO i,oG P l.length T]] (bq.alloc (oP #[oH oO i,oG P l.length T] 113)) fun e w'=>e=oQ (oK m6)/\BC w w' F g t C6/\Am (XS F) W2 w'):=Hd (by have hs:=bk.later (AG bq (oP #[oH oO i,oG P l.length T] 113));have a9:=hs.Br (left:=i) ((a8 _ hs.below).2.2) ax bd;rw[cd.out,bo]at a9;refine a9.mono ?_;rintro e w' ⟨he,j,I⟩;exact⟨he,j,(bv.alloc _).next I⟩)
                clear a8 bp ax hr ar b6 bo;cases m
                ·go_wp2_with (go_at_call 216;refine cc.mono ?_;rintro e d5 ⟨rfl,j,I⟩;have H1:=Hd j;have H2:=Hd I;clear j I)
                 refine⟨?_,?_⟩
                 ·exact⟨k+1,_,C6,nX,oD,rfl,H1,H2,ca⟩
                 ·simp[intOf];omega
                ·go_wp2_with (go_at_call 216;refine cc.mono ?_;rintro e d5 ⟨rfl,j,I⟩;have H1:=Hd j;have H2:=Hd I;clear j I)
                 refine⟨?_,?_⟩
                 ·exact⟨k+1,_,C6,nX,oD,rfl,H1,H2,ca⟩
                 ·simp[intOf];omega
               ·obtain rfl:k=g.R.length:=by omega
                have e:=b6.out;rw[List.drop_length,F6]at e;cases e
                go_wp2_with fail
                go_roundg n
                case measure=>omega
                case rel=>exact⟨m4,J,rfl,bk,bv,bi⟩
