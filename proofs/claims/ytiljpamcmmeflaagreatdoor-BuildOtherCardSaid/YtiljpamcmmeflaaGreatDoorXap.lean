/- . -/
import Derived.Test.YtiljpamcmmeflaaGreatDoorXao
import Derived.Test.YtiljpamcmmeflaaGreatDoorXac
import Derived.Test.YtiljpamcmmeflaaGreatDoorXnm
set_option linter.all false
set_option maxRecDepth 100000
set_option maxHeartbeats 16000000
namespace Go.Proofs.YtiljpamcmmeflaaGreatDoor
open Go.RowKit
open Value renaming slice→nC,int→nE,pointer→nF,bool→nI
open Option renaming some→nJ,none→nK
open IntKind renaming i64→nM
open Obj renaming cells→nO
open Ending renaming returned→nP
open World renaming cell?→nQ
open Go renaming World→nS
def YB{w:nS}{v:Value}{g:Gz}(h:GN w v g){f E:Nat}{C:List Nat}(hr:KG g f=nJ (E,C)):() 188 #[v] w fun e w'=>∃F:Fs,e=nP (F.q,0)/\BB w w' F g E C:=by
 have U:=h.fit;have de:=U.nr;have bw:Hid (∀y,Below w w y->() 68 #[v] y fun e w'=>e=nP (nE nM 0)/\Below y y w'):=Hd (fun y o=>Pt (h.later o));have bl:Hid (∀y,Below w w y->() 22 #[v] y fun e w'=>e=nP g.top/\Below y y w'):=Hd (fun y o=>LV (h.later o));have d6:=Hd h;obtain⟨AT,cT,AN,cN,AR,cR,rfl,hc,d9⟩:=h.open_;have HG:=Hd (Ah.new w 58 #[nC AT g.nt cT,nC AN g.nn cN,nC AR g.R.length cR,g.s]);have bh:=Hd (AE w (nO #[nC AT g.nt cT,nC AN g.nn cN,nC AR g.R.length cR,g.s] 58))
 have cr:=Hd hc;clear h hc;go_enter Tryz.func188,Tryz.ntmps188
 go_upto_region 3 with(go_at_call 68;refine(bw _ bh).mono ?_;rintro e w1 ⟨rfl,an⟩;have ag:=Hd an;clear an)
 go_cut [3] (fun p wx=>∃b:Nat,p=nF (nJ ⟨b,0,nK⟩)/\Hid (Ah wx b 325 #[g.nt,g.top]/\Below w w wx/\w.heap.size<b/\Ah wx w.heap.size 58 #[nC AT g.nt cT,nC AN g.nn cN,nC AR g.R.length cR,g.s]))
 case first=>
  have ak:=Hd (bh.trans (ag.mono bh.size));have a5:=Hd (HG.below ag HG.lt);obtain⟨z0,z1,z2,z3⟩:nQ w1 (w,0)=nJ (nC AT g.nt cT)/\nQ w1 (w,1)=nJ (nC AN g.nn cN)/\nQ w1 (w,2)=nJ (nC AR g.R.length cR)/\nQ w1 (w,3)=nJ (nE nM g.s):=⟨a5.cell 0,a5.cell 1,a5.cell 2,a5.cell 3⟩
  have az:=ak.size;have cl:=a5.lt;have cz:=Hd (bl w1.drew ak.drew);have d0:=Hd (bl ((w1.alloc (nO #[nE nM 0,nE nM 0] 325)).drew) ((ak.alloc az _).drew));have HZ:Hid (Ah (w1.alloc (nO #[nE nM 0,nE nM 0] 325)).drew w1.heap.size 325 #[nE nM 0,nE nM 0]):=Hd (Ah.drew (Ah.newAt rfl));go_region_law (first
   | (
     go_simp;go_at_call 22;first
       | (
          with_reducible refine cz.out.mono ?_
          rintro e w2 ⟨rfl,a1⟩;have b1:=Hd a1;have a6:=Hd (Ah.below (g:=w.heap.size) (Ah.drew a5) a1 cl);have a0:=Hd (ak.drew.trans (a1.mono az));have y0:=a6.cell 0;have cn:=a6.lt;simp at y0;clear a1)
       | (
          with_reducible refine d0.out.mono ?_
          rintro e w2 ⟨rfl,a1⟩;have b1:=Hd a1;have al:=Hd (HZ.below a1 HZ.lt);have k0:=al.cell 0;have k1:=al.cell 1;have k2:=al.frozen 0;have k3:=al.frozen 1;have a6:=Hd (Ah.below (g:=w.heap.size) (Ah.drew (Ah.alloc a5 (nO #[nE nM 0,nE nM 0] 325))) a1 mX);have a0:=Hd (((ak.alloc az (nO #[nE nM 0,nE nM 0] 325)).drew).trans (a1.mono mX));have y0:=a6.cell 0;have cn:=a6.lt;simp at k0 k1 y0;clear a1)))
  all_goals go_wp2_with fail
  all_goals go_meet
  all_goals first
   | exact⟨w2.heap.size,rfl,Hd ⟨Ah.newAt rfl,a0.alloc a0.size _,cn,a6.alloc _⟩⟩
   | exact⟨w1.heap.size,rfl,Hd ⟨(al.AW 0 g.nt).AW 1 g.top,(a0.setCell (p:=⟨w1.heap.size,0,nK⟩) az _).setCell (p:=⟨w1.heap.size,1,nK⟩) az _,cl,(a6.BC (p:=⟨w1.heap.size,0,nK⟩) (by show w.heap.size≠w1.heap.size;omega) _).BC (p:=⟨w1.heap.size,1,nK⟩) (by show w.heap.size≠w1.heap.size;omega) _⟩⟩
 case rest=>
  obtain⟨b,rfl,HB⟩:=hcut;rename nS=>W
  have cg:=HB.2.1.size;have ba:=HB.1.lt;have d2:=HB.2.2.1;have cv:Hid (∀y,() 192 #[nE nM ((g.top:Int)+1)] y fun e w'=>e=nP (y.heap.size+1,0)/\AU w' ⟨y.heap.size+1,y.heap.size,g.top+1⟩ 0/\Below y y w'):=Hd (fun y=>LU (w:=y) (n:=g.top+1) mR (by have:=U.nt;have:=U.nn;unfold Gz.top;omega));have ct:Hid (∀y,() 215 #[nE nM ((g.top:Int)+1),nE nM ((g.nt:Int)+1)] y fun e w'=>∃Ao co b8,e=nP (nC Ao (g.top+1) co)/\JW y.heap.size w'.heap.size w' (g.nt+1) (g.top+1) (nC Ao (g.top+1) co) b8/\Below y y w'):=Hd (fun y=>(lR (w:=y) (k:=g.top+1) (n:=g.nt+1) (by have:=U.nt;have:=U.nn;unfold Gz.top;omega) mR (by have:=U.nt;omega)).mono (by
   rintro e w' ⟨di,he,hf⟩;obtain⟨b8,hP⟩:=hf.at_;obtain⟨Ao,co,rfl⟩:=hP.row;exact⟨Ao,co,b8,he,hP,hf.below⟩))
  go_upto_region 4 with fail
  go_cut [4] (fun p wx=>∃F:Fs,p=(F.q,0)/\Hid (BB w wx F g 0 (List.replicate (2*(g.top+1)) 0)/\Ah wx w.heap.size 58 #[nC AT g.nt cT,nC AN g.nn cN,nC AR g.R.length cR,g.s]/\Ah wx b 325 #[g.nt,g.top]/\w.heap.size<F.q))
  case first=>
   have k0:=HB.1.cell 0;have k1:=HB.1.cell 1;simp at k0 k1;have HK:Hid (∀y,Below W W y->nQ y ⟨b,0,nK⟩=nJ (nE nM g.nt)/\nQ y ⟨b,1,nK⟩=nJ (nE nM g.top)):=Hd (fun y o=>⟨(HB.1.below o ba).cell 0,(HB.1.below o ba).cell 1⟩);have a0:Hid (Below W W W.drew):=Hd ⟨rfl,rfl,rfl,AF _,fun _ _=>rfl⟩;have dg:W.drew.heap.size=W.heap.size:=rfl;have db:IntKind.i64.wrap ((g.top:Int)+1)=(g.top:Int)+1:=by rw[IntKind.wrap_i64];have:=U.nt;have:=U.nn;unfold Gz.top;omega
   have dc:IntKind.i64.wrap ((g.nt:Int)+1)=(g.nt:Int)+1:=by rw[IntKind.wrap_i64];have:=U.nt;omega
   go_region_held3 (fun y=>nQ y ⟨b,0,nK⟩=nJ (nE nM g.nt)/\nQ y ⟨b,1,nK⟩=nJ (nE nM g.top))
    (first|exact HK _ a0|exact HK _ (a0.alloc mR _))
    (first
      | (
         go_at_call 192
         refine(cv _).mono ?_;rintro e w2 ⟨rfl,hs,hb⟩;have HE:=Hd hs;have d3:=hs.words.lt;have d4:=hb.size;have ah:=Hd (a0.trans (hb.mono a0.size))
         (try (have af:=Hd (HA.later hb);clear HA;have HA:=af;clear af))
         (try (have c0:=Hd (HD.later hb);clear HD;have HD:=c0;clear c0))
         clear hs hb a0;have a0:=ah;clear ah)
      | (
         go_at_call 215
         refine(ct _).mono ?_;rintro e w2 ⟨Ao,co,b8,rfl,hf,hb⟩;have d4:=hb.size;have ah:=Hd (a0.trans (hb.mono a0.size))
         (try (have c7:=Hd (HE.later hb);clear HE;have HE:=c7;clear c7))
         first
           | (have af:=Hd (HA.later hb);clear HA;have HA:=af;clear af;have HD:=Hd hf)
           | (have HA:=Hd hf)
         clear hf hb a0;have a0:=ah;clear ah))
   go_wp2_with fail
   go_meet
   have b9:=a0.out;have d1:=b9.size;refine⟨⟨w2.heap.size,⟨W.heap.size+1,W.heap.size,g.top+1⟩,_,_,_⟩,rfl,Hd ⟨BB.make (Ah.newAt rfl) (HE.later (AE _ _)) rfl (by have:=U.nt;have:=U.nn;unfold Gz.top;omega) (HA.later (AE _ _)) (HD.later (AE _ _)) (HB.2.1.trans ((b9.alloc d1 _).mono cg)) ?_ ?_ ?_ ?_,((HB.2.2.2.below b9 mR).alloc _),(HB.1.below b9 ba).alloc _,?_⟩⟩;all_goals (try simp only at d3 ⊢)
   all_goals omega
  case rest=>
   obtain⟨F,rfl,HF⟩:=hcut;rename nS=>W2
   have HX:Hid (∀y,Aj (XS F) W2 y->(nQ y (w,2)=nJ (nC AR g.R.length cR)/\nQ y (w,3)=nJ (nE nM g.s))/\nQ y ⟨b,0,nK⟩=nJ (nE nM g.nt)):=Hd (fun y o=>by have z:=o.Ap HF.2.1 (HF.1.no HF.2.1 mT);have z2:=o.Ap HF.2.2.1 (HF.1.no HF.2.2.1 mT);exact⟨⟨z.cell 2,z.cell 3⟩,z2.cell 0⟩)
   obtain⟨⟨x2,x3⟩,x4⟩:=HX W2 (Aj.refl _ _);have c8:Hid (BB w W2 F g 0 (Gg g 0)):=Hd (by rw[Xx];exact HF.1);have d7:=HF.1.at_.Ii;obtain⟨bg,bc,hg,cj,bb,cm,d8,da⟩:=HF.1.at_.open_;have df:=U.nt;have dd:=U.nn;have dh:g.top=g.nt+g.nn:=rfl;clear HF ba cg d2;go_wp2_with fail
   go_loopw [48] (fun ii wr=>∃a2:Nat,a2<=g.nt+1/\ii=nE nM a2/\Hid (BB w wr F g 0 (Gg g a2))/\Hid (Aj (XS F) W2 wr)) (fun ii _=>g.nt+1-(intOf ii).toNat)
   case atStart=>exact⟨0,A0 _,rfl,c8,Hd (Aj.refl _ _)⟩
   case round=>
    obtain⟨a2,hj,rfl,HS,HC⟩:=hrel;by_cases au:a2<g.nt+1
    · obtain⟨p,hp⟩:∃p,F.P[a2]?=nJ p:=⟨_,eG mR⟩
      have cx:Hid (() 150 #[(p.h,0),a2] wr fun e w'=>(∃b,e=nP (nI b))/\BB w w' F g 0 (Gg g (a2+1))/\Aj (XS F) W2 w'):=Hd ((HS.put hp au).mono (by rintro e w' ⟨he,j,I⟩;rw[W4 mR]at j;exact⟨he,j,HC.next I⟩))
      obtain⟨-,-,-,q3,-⟩:=HS.at_.cells;rw[bb]at q3;have q5:=HS.at_.L5 bb hp mR;clear hp;go_wp2_with (go_at_call 150;refine cx.mono ?_;rintro e w' ⟨⟨b',rfl⟩,j,I⟩;have H1:=Hd j;have H2:=Hd I;clear j I)
      go_roundw
      case rel=>exact⟨a2+1,mR,mY,H1,H2⟩
      case measure=>simp[intOf];omega
    · obtain rfl:a2=g.nt+1:=by omega
      rw[Yk]at HS;obtain⟨E1,C1,an,a1⟩:∃E1 C1,Gj g f 0 (JT g)=nJ (E1,C1)/\(match Fp g E1 (g.top+1) f (C1.set (g.top+1+g.s) (C1.getD (g.top+1+g.s) 0|||1)) with|none=>nK|some R=>nJ (E1,R))=nJ (E,C):=by
        unfold KG at hr;split at hr
        · cases hr
        · rename_i E1 C1 j
          exact⟨E1,C1,j,hr⟩
      have b1:=Hd a1;have ag:=Hd an;clear an a1 hr c8 bl bw x4;have bx:Hid (∀k i l,g.R[k]?=nJ (i,l)->∃b0 off P T,AR=nJ ⟨b0,off,nK⟩/\(i<=g.top/\∀x∈l,x<=g.top)/\∀y,Below w w y->nQ y ⟨b0,off+k*2,nK⟩=nJ (nE nM i)/\nQ y ⟨b0,off+k*2+1,nK⟩=nJ (nC P l.length T)/\Bv y (nC P l.length T) l):=Hd (fun k i l hk=>by obtain⟨b0,off,rv,hA,cp,e0,e1,hn⟩:=cr k _ hk;obtain⟨⟨P,T,hv,-⟩,-,-⟩:=id hn;subst hv;have hm:=mG hk;exact⟨b0,off,P,T,hA,⟨(U.left _ hm).2,fun x hx=>(U.right _ hm x hx).2⟩,fun y o=>⟨(o.cell (p:=⟨b0,off+k*2,nK⟩) cp).trans e0,(o.cell (p:=⟨b0,off+k*2+1,nK⟩) cp).trans e1,hn.later o⟩⟩)
      go_wp2_with fail
      go_loopg [6] f (fun n mo wr=>∃(m:Bool) (t:Nat) (R:List Nat),mo=nI m/\Hid (BB w wr F g t R)/\Hid (Aj (XS F) W2 wr)/\Hid ((m=true->Gj g n t R=nJ (E1,C1))/\(m=false->t=E1/\R=C1)))
      case atStart=>exact⟨true,0,JT g,rfl,HS,HC,Hd ⟨fun _=>ag,fun h=>by cases h⟩⟩
      case round=>
        obtain⟨m,t,R,rfl,ab,b2,HL⟩:=hrel;rename nS=>w5
        obtain⟨⟨x2,x3⟩,-⟩:=HX w5 b2;cases m with
        | true=>
          cases gk with
          | zero=>have h0:=HL.1 rfl;rw[Gj]at h0;cases h0
          | succ n=>
            obtain⟨E2,C2,m2,aw,av⟩:∃E2 C2 m2,Dz g.R t R false=(E2,C2,m2)/\((m2=true->Gj g n E2 C2=nJ (E1,C1))/\(m2=false->E2=E1/\C2=C1)):=by
             have h0:=HL.1 rfl;rw[Gj]at h0;generalize Dz g.R t R false=bm at *;obtain⟨E2,C2,m2⟩:=bm;refine⟨E2,C2,m2,rfl,fun h=>?_,fun h=>?_⟩
             ·subst h;exact h0
             ·subst h
              simp only at h0;cases h0
              exact⟨rfl,rfl⟩
            have bj:=Hd aw;have bi:=Hd av;clear aw av HL;go_wp2_with fail
            go_loopw [6,65] (fun mo ii wr=>∃(k:Nat) (m:Bool) (E3:Nat) (C3:List Nat),k<=g.R.length/\ii=nE nM k/\mo=nI m/\Hid (BB w wr F g E3 C3)/\Hid (Aj (XS F) W2 wr)/\Hid (Dz (g.R.drop k) E3 C3 m=(E2,C2,m2))) (fun _ ii _=>g.R.length-(intOf ii).toNat)
            case atStart=>exact⟨0,false,t,R,A0 _,rfl,rfl,ab,b2,bj⟩
            case round=>
             obtain⟨k,m,E3,C3,hk,rfl,rfl,a7,aa,b4⟩:=hrel;rename nS=>w6
             by_cases au:k<g.R.length
             ·obtain⟨⟨i,l⟩,hr⟩:∃r,g.R[k]?=nJ r:=⟨_,eG au⟩
              obtain⟨b0,off,P,T,rfl,⟨bd,ax⟩,a8⟩:=bx k i l hr;obtain⟨e0,e1,bp⟩:=a8 w6 a7.below;have cu:Hid (∀y,Below w w y->Bv y (nC P l.length T) l):=Hd (fun y o=>(a8 y o).2.2);have cy:=Hd ax;have ar:=IH hr;rw[ar]at b4;obtain⟨p,hp⟩:∃p,F.P[i]?=nJ p:=⟨_,eG mR⟩
              have ai:=Hd hp;obtain⟨J,m4,ae,bn⟩:∃J m4 ae,DC E3 i l C3 false=(J,m4,ae):=⟨_,_,_,rfl⟩
              have b5:Hid (Dz (g.R.drop (k+1)) (if ae then E3|||2 ^ i else E3) J (m||((ae&&!E3.testBit i)||m4))=(E2,C2,m2)):=Hd (by have:=b4.out;rw[Dz]at this;simp only[bn]at this;exact this);have bt:=Hd (Ah.new w6 145 #[nE nM i,nC P l.length T]);have ad:=Hd (a7.later (AE w6 (nO #[nE nM i,nC P l.length T] 145)));have bu:=Hd (aa.alloc (nO #[nE nM i,nC P l.length T] 145));clear a8 bp ax hr ar hp b4 a7 aa;go_upto_region 16 with fail
              generalize w6.alloc (nO #[nE nM i,nC P l.length T] 145)=W6 at *;generalize w6.heap.size=rb at *;have a3:Hid (∀y,Aj (XS F) W6 y->nQ y (F.q,3)=nJ (nC (bg,0) (g.top+1) bc)/\nQ y ⟨bg,i,nK⟩=nJ (nF (p.h,0))/\nQ y (rb,0)=nJ (nE nM i)/\nQ y (rb,1)=nJ (nC P l.length T)):=Hd (fun y o=>by obtain⟨-,-,-,q3,-⟩:=ad.at_.cells;rw[bb]at q3;have q5:=ad.at_.L5 bb ai bd;have ch:=o.Ap bt (ad.no bt mT);exact⟨ad.cell o (Nk q3) q3 (fun z e=>by cases e),ad.cell o (Nk q5) q5 (fun z e=>by cases e),ch.cell 0,ch.cell 1⟩)
              obtain⟨s0,s1,s2,s3⟩:=a3 W6 (Aj.refl _ _);have c9:Hid (() 216 #[(F.q,0),(p.h,0),nC P l.length T] W6.drew fun e w'=>e=nP (.tuple #[nI m4,nI ae])/\BB w w' F g E3 J/\Aj (XS F) W6 w'):=Hd (by
               have aq:Below W6 W6 W6.drew:=⟨rfl,rfl,rfl,AF _,fun _ _=>rfl⟩
               have be:=ad.later aq;have a9:=be.line ai (cu _ be.below) cy;rw[bn]at a9;refine a9.mono ?_;rintro e w' ⟨he,j,I⟩;exact⟨he,j,(Aj.AJ aq).next I⟩)
              generalize bf:g.top+1=tp at *;have cd:=Hd bf;have i2:(i:Int)<(tp:Int):=by omega
              have i1:(0:Int)<=(i:Int):=by omega
              clear bf bn
              go_region_held3 (fun y=>nQ y (F.q,3)=nJ (nC (bg,0) tp bc)/\nQ y ⟨bg,i,nK⟩=nJ (nF (p.h,0))/\nQ y (rb,0)=nJ (nE nM i)/\nQ y (rb,1)=nJ (nC P l.length T))
               (first|exact a3 _ ⟨rfl,rfl,rfl,AF _,fun _ _ _=>rfl⟩|exact a3 _ a4)
               (first|(go_at_call 216;refine c9.mono ?_;rintro e w7 ⟨rfl,ay,ao⟩;have aj:=Hd ay;have a4:=Hd ao;clear ay ao))
              clear s0 s1 s2 s3 i1 i2 c9;go_upto_region 17 with fail
              have c6:Hid (Below w7 w7 w7.drew):=Hd ⟨rfl,rfl,rfl,AF _,fun _ _=>rfl⟩;obtain⟨-,-,q2,-,-⟩:=aj.at_.cells;obtain⟨-,-,q4,-⟩:=a3 w7 a4;have cw:Hid (() 150 #[(F.e.h,0),nE nM i] w7.drew fun e w'=>e=nP (nI (!E3.testBit i))/\BB w w' F g (E3|||2 ^ i) J/\Aj (XS F) W2 w'):=Hd (by refine((aj.later c6).jE bd).mono ?_;rintro e w' ⟨he,j,I⟩;exact⟨he,j,((bu.next a4).next (Aj.AJ c6)).next I⟩)
              have cs:Hid (∀n,BB w (w7.drewN n) F g E3 J/\Aj (XS F) W2 (w7.drewN n)):=Hd (fun n=>by
               have ck:Below w7 w7 (w7.drewN n):=⟨rfl,rfl,rfl,AF _,fun _ _=>rfl⟩
               exact⟨aj.later ck,(bu.next a4).next (Aj.AJ ck)⟩)
              cases ae with
              | false=>
               go_quiet (fail)
               obtain⟨H1,H2⟩:=cs nq;have H1:=Hd H1;have H2:=Hd H2;cases m
               ·go_wp2_with fail
                refine⟨?_,?_⟩
                ·repeat apply Exists.intro
                 refine⟨?_,rfl⟩;exact⟨k+1,_,E3,J,mR,mY,rfl,H1,H2,b5⟩
                ·simp[intOf];omega
               ·go_wp2_with fail
                refine⟨?_,?_⟩
                ·repeat apply Exists.intro
                 refine⟨?_,rfl⟩;exact⟨k+1,_,E3,J,mR,mY,rfl,H1,H2,b5⟩
                ·simp[intOf];omega
              | true=>
               generalize E3.testBit i=tb at *;cases tb
               all_goals first
                | (go_region_law (first|(go_simp;go_at_call 150;refine cw.mono ?_;rintro e w8 ⟨rfl,j,I⟩;have H1:=Hd j;have H2:=Hd I;clear j I)))
                | fail
               all_goals cases m
               all_goals cases m4
               all_goals go_wp2_with fail
               all_goals refine⟨?_,?_⟩
               all_goals first
                | (simp[intOf];omega;done)
                | exact⟨_,_,_,_,_,⟨k+1,mR,rfl,.inl ⟨rfl,_,_,H1,b5⟩⟩,rfl,rfl,rfl,rfl,mY⟩
                | exact⟨_,_,_,_,_,⟨k+1,mR,rfl,.inr ⟨rfl,_,_,H1,b5⟩⟩,rfl,rfl,rfl,rfl,mY⟩
                | trace_state
             ·obtain rfl:k=g.R.length:=by omega
              have e:=b4.out;rw[List.drop_length,Dz]at e;cases e
              go_wp2_with fail
              go_roundg n
              case measure=>omega
              case rel=>exact⟨m2,E2,C2,rfl,a7,aa,bi⟩
        | false=>
          obtain⟨rfl,rfl⟩:=HL.2 rfl;obtain⟨p,hp⟩:∃p,F.P[g.top+1+g.s]?=nJ p:=⟨_,eG (by have:=U.start;omega)⟩
          have ai:=Hd hp;obtain⟨hE,cf⟩:t=E/\Fp g t (g.top+1) f (R.set (g.top+1+g.s) (R.getD (g.top+1+g.s) 0|||1))=nJ C:=by
            have h0:=b1.out;split at h0
            ·cases h0
            ·rename_i X hX
             cases h0
             exact⟨rfl,hX⟩
          subst hE;have br:=Hd cf;have be:=U.start;clear hp cf b1 ag HL;go_upto_region 20 with fail
          have a3:Hid (∀y,Aj (XS F) w5 y->nQ y (F.q,4)=nJ (nC (hg,0) (g.top+1) cj)/\nQ y (hg,g.s)=nJ (nF (p.h,0))/\nQ y (w,3)=nJ (nE nM g.s)):=Hd (fun y o=>by obtain⟨-,-,-,-,q4⟩:=ab.at_.cells;rw[cm]at q4;have q5:=ab.at_.M4 cm ai be.2;exact⟨ab.cell o (Nk q4) q4 (fun z e=>by cases e),ab.cell o (Nk q5) q5 (fun z e=>by cases e),(HX y (b2.next o)).1.2⟩)
          obtain⟨s0,s1,s2⟩:=a3 w5 (Aj.refl _ _);have cb:Hid (() 150 #[(p.h,0),nE nM 0] w5.drew fun e w'=>(∃b,e=nP (nI b))/\BB w w' F g t (R.set (g.top+1+g.s) (R.getD (g.top+1+g.s) 0|||1))/\Aj (XS F) w5 w'):=Hd (by
            have aq:Below w5 w5 w5.drew:=⟨rfl,rfl,rfl,AF _,fun _ _=>rfl⟩
            have a9:=(ab.later aq).put (x:=0) ai mR;refine a9.mono ?_;rintro e w' ⟨he,j,I⟩;exact⟨he,j,(Aj.AJ aq).next I⟩)
          have cq:Hid (Fp g t (g.top+1) f (R.set (g.top+1+g.s) (R.getD (g.top+1+g.s) 0|||1))=nJ C):=br;generalize R.set (g.top+1+g.s) (R.getD (g.top+1+g.s) 0|||1)=Cs at *;generalize bf:g.top+1=tp at *;have cd:=Hd bf;have i2:(g.s:Int)<(tp:Int):=by omega
          have i1:(0:Int)<=(g.s:Int):=by omega
          clear br
          go_region_held3 (fun y=>nQ y (F.q,4)=nJ (nC (hg,0) tp cj)/\nQ y (hg,g.s)=nJ (nF (p.h,0))/\nQ y (w,3)=nJ (nE nM g.s))
            (first|exact a3 _ ⟨rfl,rfl,rfl,AF _,fun _ _ _=>rfl⟩|exact a3 _ a4)
            (first|(go_at_call 150;refine cb.mono ?_;rintro e w7 ⟨⟨b7,rfl⟩,ay,ao⟩;have aj:=Hd ay;have a4:=Hd ao;clear ay ao))
          have bz:=Hd (b2.next a4);obtain⟨⟨x2,x3⟩,-⟩:=HX w7 bz;clear s0 s1 s2 i1 i2 cb a3;go_wp2_with fail
          go_loopg [11] f (fun n mo wr=>∃(m:Bool) (C3:List Nat),mo=nI m/\Hid (BB w wr F g t C3)/\Hid (Aj (XS F) W2 wr)/\Hid ((m=true->Fp g t tp n C3=nJ C)/\(m=false->C3=C)))
          case atStart=>exact⟨true,Cs,rfl,aj,bz,Hd ⟨fun _=>cq,fun h=>by cases h⟩⟩
          case round=>
            obtain⟨m,C3,rfl,a7,aa,b3⟩:=hrel;rename nS=>w9
            obtain⟨⟨x2,x3⟩,-⟩:=HX w9 aa;cases m with
            | false=>
             obtain rfl:=b3.2 rfl;go_wp2_with fail
             go_ret;exact⟨F,rfl,a7⟩
            | true=>
             cases gk with
             | zero=>have h0:=b3.1 rfl;rw[Fp]at h0;cases h0
             | succ n=>
              obtain⟨J,m4,aw,av⟩:∃J m4,FP g t tp g.R C3 false=(J,m4)/\((m4=true->Fp g t tp n J=nJ C)/\(m4=false->J=C)):=by
               have h0:=b3.1 rfl;rw[Fp]at h0;generalize FP g t tp g.R C3 false=bm at *;obtain⟨J,m4⟩:=bm;refine⟨J,m4,rfl,fun h=>?_,fun h=>?_⟩
               ·subst h;exact h0
               ·subst h
                simp only at h0;cases h0
                rfl
              have bj:=Hd aw;have bi:=Hd av;clear aw av b3;go_wp2_with fail
              go_loopw [11,115] (fun mo ii wr=>∃(k:Nat) (m:Bool) (C5:List Nat),k<=g.R.length/\ii=nE nM k/\mo=nI m/\Hid (BB w wr F g t C5)/\Hid (Aj (XS F) W2 wr)/\Hid (FP g t tp (g.R.drop k) C5 m=(J,m4))) (fun _ ii _=>g.R.length-(intOf ii).toNat)
              case atStart=>exact⟨0,false,C3,A0 _,rfl,rfl,a7,aa,bj⟩
              case round=>
               obtain⟨k,m,C5,hk,rfl,rfl,bk,bv,b6⟩:=hrel;rename nS=>bq
               by_cases au:k<g.R.length
               ·obtain⟨⟨i,l⟩,hr⟩:∃r,g.R[k]?=nJ r:=⟨_,eG au⟩
                obtain⟨b0,off,P,T,rfl,⟨bd,ax⟩,a8⟩:=bx k i l hr;obtain⟨e0,e1,bp⟩:=a8 bq bk.below;have ar:=IH hr;rw[ar]at b6;obtain⟨C6,m6,bo⟩:∃C6 m6,EM g t tp i l C5 false=(C6,m6):=⟨_,_,rfl⟩
                have ca:Hid (FP g t tp (g.R.drop (k+1)) C6 (m||m6)=(J,m4)):=Hd (by have:=b6.out;rw[FP]at this;simp only[bo]at this;exact this);have cc:Hid (() 217 #[(F.q,0),.agg #[nE nM i,nC P l.length T]] (bq.alloc (nO #[nE nM i,nC P l.length T] 145)) fun e w'=>e=nP (nI m6)/\BB w w' F g t C6/\Aj (XS F) W2 w'):=Hd (by have hs:=bk.later (AE bq (nO #[nE nM i,nC P l.length T] 145));have a9:=hs.AX (left:=i) ((a8 _ hs.below).2.2) ax bd;rw[cd.out,bo]at a9;refine a9.mono ?_;rintro e w' ⟨he,j,I⟩;exact⟨he,j,(bv.alloc _).next I⟩)
                clear a8 bp ax hr ar b6 bo;cases m
                ·go_wp2_with (go_at_call 217;refine cc.mono ?_;rintro e d5 ⟨rfl,j,I⟩;have H1:=Hd j;have H2:=Hd I;clear j I)
                 refine⟨?_,?_⟩
                 ·exact⟨k+1,_,C6,mR,mY,rfl,H1,H2,ca⟩
                 ·simp[intOf];omega
                ·go_wp2_with (go_at_call 217;refine cc.mono ?_;rintro e d5 ⟨rfl,j,I⟩;have H1:=Hd j;have H2:=Hd I;clear j I)
                 refine⟨?_,?_⟩
                 ·exact⟨k+1,_,C6,mR,mY,rfl,H1,H2,ca⟩
                 ·simp[intOf];omega
               ·obtain rfl:k=g.R.length:=by omega
                have e:=b6.out;rw[List.drop_length,FP]at e;cases e
                go_wp2_with fail
                go_roundg n
                case measure=>omega
                case rel=>exact⟨m4,J,rfl,bk,bv,bi⟩
