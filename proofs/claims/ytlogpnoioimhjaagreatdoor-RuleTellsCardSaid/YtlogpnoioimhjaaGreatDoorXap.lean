/- The sets of a grammar. -/
import Derived.Test.YtlogpnoioimhjaaGreatDoorXao
import Derived.Test.YtlogpnoioimhjaaGreatDoorXac
import Derived.Test.YtlogpnoioimhjaaGreatDoorXnm
set_option linter.all false
set_option maxRecDepth 100000
set_option maxHeartbeats 16000000
namespace Go.Proofs.YtlogpnoioimhjaaGreatDoor
open Go.RowKit
def XR{w:World}{v:Value}{g:Gz}(h:GN w v g){f E:Nat}{C:List Nat}(hr:KF g f=some (E,C)):() 153 #[v] w fun e w'=>∃F:Fs,e=.returned (F.q,0)/\Bx w w' F g E C:=by
 have U:=h.fit;have de:=U.nr;have bw:Hid (∀y,Below w w y->() 98 #[v] y fun e w'=>e=.returned (.int .i64 0)/\Below y y w'):=Hd (fun y o=>NM (h.later o));have bl:Hid (∀y,Below w w y->() 103 #[v] y fun e w'=>e=.returned g.top/\Below y y w'):=Hd (fun y o=>LB (h.later o));have d6:=Hd h;obtain⟨AT,cT,AN,cN,AR,cR,rfl,hc,d9⟩:=h.open_;have HG:=Hd (Ah.new w 58 #[.slice AT g.nt cT,.slice AN g.nn cN,.slice AR g.R.length cR,g.s]);have bh:=Hd (AG w (.cells #[.slice AT g.nt cT,.slice AN g.nn cN,.slice AR g.R.length cR,g.s] 58))
 have cr:=Hd hc;clear h hc;go_enter Tryz.func153,Tryz.ntmps153
 go_upto_region 3 with(go_at_call 98;refine(bw _ bh).mono ?_;rintro e w1 ⟨rfl,an⟩;have ag:=Hd an;clear an)
 go_cut [3] (fun p wx=>∃b:Nat,p=.pointer (some ⟨b,0,none⟩)/\Hid (Ah wx b 289 #[g.nt,g.top]/\Below w w wx/\w.heap.size<b/\Ah wx w.heap.size 58 #[.slice AT g.nt cT,.slice AN g.nn cN,.slice AR g.R.length cR,g.s]))
 case first=>
  have ak:=Hd (bh.trans (ag.mono bh.size));have a5:=Hd (HG.below ag HG.lt);obtain⟨z0,z1,z2,z3⟩:w1.cell? (w,0)=some (.slice AT g.nt cT)/\w1.cell? (w,1)=some (.slice AN g.nn cN)/\w1.cell? (w,2)=some (.slice AR g.R.length cR)/\w1.cell? (w,3)=some (.int .i64 g.s):=⟨a5.cell 0,a5.cell 1,a5.cell 2,a5.cell 3⟩
  have az:=ak.size;have cl:=a5.lt;have cz:=Hd (bl w1.drew ak.drew);have d0:=Hd (bl ((w1.alloc (.cells #[.int .i64 0,.int .i64 0] 289)).drew) ((ak.alloc az _).drew));have HZ:Hid (Ah (w1.alloc (.cells #[.int .i64 0,.int .i64 0] 289)).drew w1.heap.size 289 #[.int .i64 0,.int .i64 0]):=Hd (Ah.drew (Ah.newAt rfl));go_region_law (first
   | (
     go_simp;go_at_call 103;first
       | (
          with_reducible refine cz.out.mono ?_
          rintro e w2 ⟨rfl,a1⟩;have b1:=Hd a1;have a6:=Hd (Ah.below (g:=w.heap.size) (Ah.drew a5) a1 cl);have a0:=Hd (ak.drew.trans (a1.mono az));have y0:=a6.cell 0;have cn:=a6.lt;simp at y0;clear a1)
       | (
          with_reducible refine d0.out.mono ?_
          rintro e w2 ⟨rfl,a1⟩;have b1:=Hd a1;have al:=Hd (HZ.below a1 HZ.lt);have k0:=al.cell 0;have k1:=al.cell 1;have k2:=al.frozen 0;have k3:=al.frozen 1;have a6:=Hd (Ah.below (g:=w.heap.size) (Ah.drew (Ah.alloc a5 (.cells #[.int .i64 0,.int .i64 0] 289))) a1 (by simp;omega));have a0:=Hd (((ak.alloc az (.cells #[.int .i64 0,.int .i64 0] 289)).drew).trans (a1.mono (by simp;omega)));have y0:=a6.cell 0;have cn:=a6.lt;simp at k0 k1 y0;clear a1)))
  all_goals go_wp2_with fail
  all_goals go_meet
  all_goals first
   | exact⟨w2.heap.size,rfl,Hd ⟨Ah.newAt rfl,a0.alloc a0.size _,cn,a6.alloc _⟩⟩
   | exact⟨w1.heap.size,rfl,Hd ⟨(al.Be 0 g.nt).Be 1 g.top,(a0.setCell (p:=⟨w1.heap.size,0,none⟩) az _).setCell (p:=⟨w1.heap.size,1,none⟩) az _,cl,(a6.BA (p:=⟨w1.heap.size,0,none⟩) (by show w.heap.size≠w1.heap.size;omega) _).BA (p:=⟨w1.heap.size,1,none⟩) (by show w.heap.size≠w1.heap.size;omega) _⟩⟩
 case rest=>
  obtain⟨b,rfl,HB⟩:=hcut;rename World=>W
  have cg:=HB.2.1.size;have ba:=HB.1.lt;have d2:=HB.2.2.1;have cv:Hid (∀y,() 157 #[.int .i64 ((g.top:Int)+1)] y fun e w'=>e=.returned (y.heap.size+1,0)/\AP w' ⟨y.heap.size+1,y.heap.size,g.top+1⟩ 0/\Below y y w'):=Hd (fun y=>LO (w:=y) (n:=g.top+1) (by omega) (by have:=U.nt;have:=U.nn;unfold Gz.top;omega));have ct:Hid (∀y,() 187 #[.int .i64 ((g.top:Int)+1),.int .i64 ((g.nt:Int)+1)] y fun e w'=>∃Ao co b8,e=.returned (.slice Ao (g.top+1) co)/\J1 y.heap.size w'.heap.size w' (g.nt+1) (g.top+1) (.slice Ao (g.top+1) co) b8/\Below y y w'):=Hd (fun y=>(XJ (w:=y) (k:=g.top+1) (n:=g.nt+1) (by have:=U.nt;have:=U.nn;unfold Gz.top;omega) (by omega) (by have:=U.nt;omega)).mono (by
   rintro e w' ⟨di,he,hf⟩;obtain⟨b8,hP⟩:=hf.at_;obtain⟨Ao,co,rfl⟩:=hP.row;exact⟨Ao,co,b8,he,hP,hf.below⟩))
  go_upto_region 4 with fail
  go_cut [4] (fun p wx=>∃F:Fs,p=(F.q,0)/\Hid (Bx w wx F g 0 (List.replicate (2*(g.top+1)) 0)/\Ah wx w.heap.size 58 #[.slice AT g.nt cT,.slice AN g.nn cN,.slice AR g.R.length cR,g.s]/\Ah wx b 289 #[g.nt,g.top]/\w.heap.size<F.q))
  case first=>
   have k0:=HB.1.cell 0;have k1:=HB.1.cell 1;simp at k0 k1;have HK:Hid (∀y,Below W W y->y.cell? ⟨b,0,none⟩=some (.int .i64 g.nt)/\y.cell? ⟨b,1,none⟩=some (.int .i64 g.top)):=Hd (fun y o=>⟨(HB.1.below o ba).cell 0,(HB.1.below o ba).cell 1⟩);have a0:Hid (Below W W W.drew):=Hd ⟨rfl,rfl,rfl,AF _,fun _ _=>rfl⟩;have dg:W.drew.heap.size=W.heap.size:=rfl;have db:IntKind.i64.wrap ((g.top:Int)+1)=(g.top:Int)+1:=by rw[IntKind.wrap_i64];have:=U.nt;have:=U.nn;unfold Gz.top;omega
   have dc:IntKind.i64.wrap ((g.nt:Int)+1)=(g.nt:Int)+1:=by rw[IntKind.wrap_i64];have:=U.nt;omega
   go_region_held3 (fun y=>y.cell? ⟨b,0,none⟩=some (.int .i64 g.nt)/\y.cell? ⟨b,1,none⟩=some (.int .i64 g.top))
    (first|exact HK _ a0|exact HK _ (a0.alloc (by omega) _))
    (first
      | (
         go_at_call 157
         refine(cv _).mono ?_;rintro e w2 ⟨rfl,hs,hb⟩;have HE:=Hd hs;have d3:=hs.words.lt;have d4:=hb.size;have ah:=Hd (a0.trans (hb.mono a0.size))
         (try (have af:=Hd (HA.later hb);clear HA;have HA:=af;clear af))
         (try (have c0:=Hd (HD.later hb);clear HD;have HD:=c0;clear c0))
         clear hs hb a0;have a0:=ah;clear ah)
      | (
         go_at_call 187
         refine(ct _).mono ?_;rintro e w2 ⟨Ao,co,b8,rfl,hf,hb⟩;have d4:=hb.size;have ah:=Hd (a0.trans (hb.mono a0.size))
         (try (have c7:=Hd (HE.later hb);clear HE;have HE:=c7;clear c7))
         first
           | (have af:=Hd (HA.later hb);clear HA;have HA:=af;clear af;have HD:=Hd hf)
           | (have HA:=Hd hf)
         clear hf hb a0;have a0:=ah;clear ah))
   go_wp2_with fail
   go_meet
   have b9:=a0.out;have d1:=b9.size;refine⟨⟨w2.heap.size,⟨W.heap.size+1,W.heap.size,g.top+1⟩,_,_,_⟩,rfl,Hd ⟨Bx.make (Ah.newAt rfl) (HE.later (AG _ _)) rfl (by have:=U.nt;have:=U.nn;unfold Gz.top;omega) (HA.later (AG _ _)) (HD.later (AG _ _)) (HB.2.1.trans ((b9.alloc d1 _).mono cg)) ?_ ?_ ?_ ?_,((HB.2.2.2.below b9 (by omega)).alloc _),(HB.1.below b9 ba).alloc _,?_⟩⟩;all_goals (try simp only at d3 ⊢)
   all_goals omega
  case rest=>
   obtain⟨F,rfl,HF⟩:=hcut;rename World=>W2
   have HX:Hid (∀y,Aj (XS F) W2 y->(y.cell? (w,2)=some (.slice AR g.R.length cR)/\y.cell? (w,3)=some (.int .i64 g.s))/\y.cell? ⟨b,0,none⟩=some (.int .i64 g.nt)):=Hd (fun y o=>by have z:=o.Ap HF.2.1 (HF.1.no HF.2.1 (by decide));have z2:=o.Ap HF.2.2.1 (HF.1.no HF.2.2.1 (by decide));exact⟨⟨z.cell 2,z.cell 3⟩,z2.cell 0⟩)
   obtain⟨⟨x2,x3⟩,x4⟩:=HX W2 (Aj.refl _ _);have c8:Hid (Bx w W2 F g 0 (GG g 0)):=Hd (by rw[XU];exact HF.1);have d7:=HF.1.at_.Ia;obtain⟨bg,bc,hg,cj,bb,cm,d8,da⟩:=HF.1.at_.open_;have df:=U.nt;have dd:=U.nn;have dh:g.top=g.nt+g.nn:=rfl;clear HF ba cg d2;go_wp2_with fail
   go_loopw [48] (fun ii wr=>∃a2:Nat,a2<=g.nt+1/\ii=.int .i64 a2/\Hid (Bx w wr F g 0 (GG g a2))/\Hid (Aj (XS F) W2 wr)) (fun ii _=>g.nt+1-(intOf ii).toNat)
   case atStart=>exact⟨0,AX _,rfl,c8,Hd (Aj.refl _ _)⟩
   case round=>
    obtain⟨a2,hj,rfl,HS,HC⟩:=hrel;by_cases au:a2<g.nt+1
    · obtain⟨p,hp⟩:∃p,F.P[a2]?=some p:=⟨_,eG (by omega)⟩
      have cx:Hid (() 106 #[(p.h,0),a2] wr fun e w'=>(∃b,e=.returned (.bool b))/\Bx w w' F g 0 (GG g (a2+1))/\Aj (XS F) W2 w'):=Hd ((HS.put hp au).mono (by rintro e w' ⟨he,j,I⟩;rw[VT (by omega)]at j;exact⟨he,j,HC.next I⟩))
      obtain⟨-,-,-,q3,-⟩:=HS.at_.cells;rw[bb]at q3;have q5:=HS.at_.Mz bb hp (by omega);clear hp;go_wp2_with (go_at_call 106;refine cx.mono ?_;rintro e w' ⟨⟨b',rfl⟩,j,I⟩;have H1:=Hd j;have H2:=Hd I;clear j I)
      go_roundw
      case rel=>exact⟨a2+1,by omega,by go_num,H1,H2⟩
      case measure=>simp[intOf];omega
    · obtain rfl:a2=g.nt+1:=by omega
      rw[fN]at HS;obtain⟨E1,C1,an,a1⟩:∃E1 C1,Gp g f 0 (JM g)=some (E1,C1)/\(match Fo g E1 (g.top+1) f (C1.set (g.top+1+g.s) (C1.getD (g.top+1+g.s) 0|||1)) with|none=>none|some R=>some (E1,R))=some (E,C):=by
        unfold KF at hr;split at hr
        · cases hr
        · rename_i E1 C1 j
          exact⟨E1,C1,j,hr⟩
      have b1:=Hd a1;have ag:=Hd an;clear an a1 hr c8 bl bw x4;have bx:Hid (∀k i l,g.R[k]?=some (i,l)->∃b0 off P T,AR=some ⟨b0,off,none⟩/\(i<=g.top/\∀x∈l,x<=g.top)/\∀y,Below w w y->y.cell? ⟨b0,off+k*2,none⟩=some (.int .i64 i)/\y.cell? ⟨b0,off+k*2+1,none⟩=some (.slice P l.length T)/\BD y (.slice P l.length T) l):=Hd (fun k i l hk=>by obtain⟨b0,off,rv,hA,cp,e0,e1,hn⟩:=cr k _ hk;obtain⟨⟨P,T,hv,-⟩,-,-⟩:=id hn;subst hv;have hm:=mG hk;exact⟨b0,off,P,T,hA,⟨(U.left _ hm).2,fun x hx=>(U.right _ hm x hx).2⟩,fun y o=>⟨(o.cell (p:=⟨b0,off+k*2,none⟩) cp).trans e0,(o.cell (p:=⟨b0,off+k*2+1,none⟩) cp).trans e1,hn.later o⟩⟩)
      go_wp2_with fail
      go_loopg [6] f (fun n mo wr=>∃(m:Bool) (t:Nat) (R:List Nat),mo=.bool m/\Hid (Bx w wr F g t R)/\Hid (Aj (XS F) W2 wr)/\Hid ((m=true->Gp g n t R=some (E1,C1))/\(m=false->t=E1/\R=C1)))
      case atStart=>exact⟨true,0,JM g,rfl,HS,HC,Hd ⟨fun _=>ag,fun h=>by cases h⟩⟩
      case round=>
        obtain⟨m,t,R,rfl,ab,b2,HL⟩:=hrel;rename World=>w5
        obtain⟨⟨x2,x3⟩,-⟩:=HX w5 b2;cases m with
        | true=>
          cases gk with
          | zero=>have h0:=HL.1 rfl;rw[Gp]at h0;cases h0
          | succ n=>
            obtain⟨E2,C2,m2,aw,av⟩:∃E2 C2 m2,Dz g.R t R false=(E2,C2,m2)/\((m2=true->Gp g n E2 C2=some (E1,C1))/\(m2=false->E2=E1/\C2=C1)):=by
             have h0:=HL.1 rfl;rw[Gp]at h0;generalize Dz g.R t R false=bm at *;obtain⟨E2,C2,m2⟩:=bm;refine⟨E2,C2,m2,rfl,fun h=>?_,fun h=>?_⟩
             ·subst h;exact h0
             ·subst h
              simp only at h0;cases h0
              exact⟨rfl,rfl⟩
            have bj:=Hd aw;have bi:=Hd av;clear aw av HL;go_wp2_with fail
            go_loopw [6,65] (fun mo ii wr=>∃(k:Nat) (m:Bool) (E3:Nat) (C3:List Nat),k<=g.R.length/\ii=.int .i64 k/\mo=.bool m/\Hid (Bx w wr F g E3 C3)/\Hid (Aj (XS F) W2 wr)/\Hid (Dz (g.R.drop k) E3 C3 m=(E2,C2,m2))) (fun _ ii _=>g.R.length-(intOf ii).toNat)
            case atStart=>exact⟨0,false,t,R,AX _,rfl,rfl,ab,b2,bj⟩
            case round=>
             obtain⟨k,m,E3,C3,hk,rfl,rfl,a7,aa,b4⟩:=hrel;rename World=>w6
             by_cases au:k<g.R.length
             ·obtain⟨⟨i,l⟩,hr⟩:∃r,g.R[k]?=some r:=⟨_,eG au⟩
              obtain⟨b0,off,P,T,rfl,⟨bd,ax⟩,a8⟩:=bx k i l hr;obtain⟨e0,e1,bp⟩:=a8 w6 a7.below;have cu:Hid (∀y,Below w w y->BD y (.slice P l.length T) l):=Hd (fun y o=>(a8 y o).2.2);have cy:=Hd ax;have ar:=IQ hr;rw[ar]at b4;obtain⟨p,hp⟩:∃p,F.P[i]?=some p:=⟨_,eG (by omega)⟩
              have ai:=Hd hp;obtain⟨J,m4,ae,bn⟩:∃J m4 ae,DC E3 i l C3 false=(J,m4,ae):=⟨_,_,_,rfl⟩
              have b5:Hid (Dz (g.R.drop (k+1)) (if ae then E3|||2 ^ i else E3) J (m||((ae&&!E3.testBit i)||m4))=(E2,C2,m2)):=Hd (by have:=b4.out;rw[Dz]at this;simp only[bn]at this;exact this);have bt:=Hd (Ah.new w6 119 #[.int .i64 i,.slice P l.length T]);have ad:=Hd (a7.later (AG w6 (.cells #[.int .i64 i,.slice P l.length T] 119)));have bu:=Hd (aa.alloc (.cells #[.int .i64 i,.slice P l.length T] 119));clear a8 bp ax hr ar hp b4 a7 aa;go_upto_region 16 with fail
              generalize w6.alloc (.cells #[.int .i64 i,.slice P l.length T] 119)=W6 at *;generalize w6.heap.size=rb at *;have a3:Hid (∀y,Aj (XS F) W6 y->y.cell? (F.q,3)=some (.slice (bg,0) (g.top+1) bc)/\y.cell? ⟨bg,i,none⟩=some (.pointer (p.h,0))/\y.cell? (rb,0)=some (.int .i64 i)/\y.cell? (rb,1)=some (.slice P l.length T)):=Hd (fun y o=>by obtain⟨-,-,-,q3,-⟩:=ad.at_.cells;rw[bb]at q3;have q5:=ad.at_.Mz bb ai bd;have ch:=o.Ap bt (ad.no bt (by decide));exact⟨ad.cell o (M5 q3) q3 (fun z e=>by cases e),ad.cell o (M5 q5) q5 (fun z e=>by cases e),ch.cell 0,ch.cell 1⟩)
              obtain⟨s0,s1,s2,s3⟩:=a3 W6 (Aj.refl _ _);have c9:Hid (() 188 #[(F.q,0),(p.h,0),.slice P l.length T] W6.drew fun e w'=>e=.returned (.tuple #[.bool m4,.bool ae])/\Bx w w' F g E3 J/\Aj (XS F) W6 w'):=Hd (by
               have aq:Below W6 W6 W6.drew:=⟨rfl,rfl,rfl,AF _,fun _ _=>rfl⟩
               have be:=ad.later aq;have a9:=be.line ai (cu _ be.below) cy;rw[bn]at a9;refine a9.mono ?_;rintro e w' ⟨he,j,I⟩;exact⟨he,j,(Aj.AJ aq).next I⟩)
              generalize bf:g.top+1=tp at *;have cd:=Hd bf;have i2:(i:Int)<(tp:Int):=by omega
              have i1:(0:Int)<=(i:Int):=by omega
              clear bf bn
              go_region_held3 (fun y=>y.cell? (F.q,3)=some (.slice (bg,0) tp bc)/\y.cell? ⟨bg,i,none⟩=some (.pointer (p.h,0))/\y.cell? (rb,0)=some (.int .i64 i)/\y.cell? (rb,1)=some (.slice P l.length T))
               (first|exact a3 _ ⟨rfl,rfl,rfl,AF _,fun _ _ _=>rfl⟩|exact a3 _ a4)
               (first|(go_at_call 188;refine c9.mono ?_;rintro e w7 ⟨rfl,ay,ao⟩;have aj:=Hd ay;have a4:=Hd ao;clear ay ao))
              clear s0 s1 s2 s3 i1 i2 c9;go_upto_region 17 with fail
              have c6:Hid (Below w7 w7 w7.drew):=Hd ⟨rfl,rfl,rfl,AF _,fun _ _=>rfl⟩;obtain⟨-,-,q2,-,-⟩:=aj.at_.cells;obtain⟨-,-,q4,-⟩:=a3 w7 a4;have cw:Hid (() 106 #[(F.e.h,0),.int .i64 i] w7.drew fun e w'=>e=.returned (.bool (!E3.testBit i))/\Bx w w' F g (E3|||2 ^ i) J/\Aj (XS F) W2 w'):=Hd (by refine((aj.later c6).Yg bd).mono ?_;rintro e w' ⟨he,j,I⟩;exact⟨he,j,((bu.next a4).next (Aj.AJ c6)).next I⟩)
              have cs:Hid (∀n,Bx w (w7.drewN n) F g E3 J/\Aj (XS F) W2 (w7.drewN n)):=Hd (fun n=>by
               have ck:Below w7 w7 (w7.drewN n):=⟨rfl,rfl,rfl,AF _,fun _ _=>rfl⟩
               exact⟨aj.later ck,(bu.next a4).next (Aj.AJ ck)⟩)
              cases ae with
              | false=>
               go_quiet (fail)
               obtain⟨H1,H2⟩:=cs nq;have H1:=Hd H1;have H2:=Hd H2;cases m
               ·go_wp2_with fail
                refine⟨?_,?_⟩
                ·repeat apply Exists.intro
                 refine⟨?_,rfl⟩;exact⟨k+1,_,E3,J,by omega,by go_num,rfl,H1,H2,b5⟩
                ·simp[intOf];omega
               ·go_wp2_with fail
                refine⟨?_,?_⟩
                ·repeat apply Exists.intro
                 refine⟨?_,rfl⟩;exact⟨k+1,_,E3,J,by omega,by go_num,rfl,H1,H2,b5⟩
                ·simp[intOf];omega
              | true=>
               generalize E3.testBit i=tb at *;cases tb
               all_goals first
                | (go_region_law (first|(go_simp;go_at_call 106;refine cw.mono ?_;rintro e w8 ⟨rfl,j,I⟩;have H1:=Hd j;have H2:=Hd I;clear j I)))
                | fail
               all_goals cases m
               all_goals cases m4
               all_goals go_wp2_with fail
               all_goals refine⟨?_,?_⟩
               all_goals first
                | (simp[intOf];omega;done)
                | exact⟨_,_,_,_,_,⟨k+1,by omega,rfl,.inl ⟨rfl,_,_,H1,b5⟩⟩,rfl,rfl,rfl,rfl,by go_num⟩
                | exact⟨_,_,_,_,_,⟨k+1,by omega,rfl,.inr ⟨rfl,_,_,H1,b5⟩⟩,rfl,rfl,rfl,rfl,by go_num⟩
                | trace_state
             ·obtain rfl:k=g.R.length:=by omega
              have e:=b4.out;rw[List.drop_length,Dz]at e;cases e
              go_wp2_with fail
              go_roundg n
              case measure=>omega
              case rel=>exact⟨m2,E2,C2,rfl,a7,aa,bi⟩
        | false=>
          obtain⟨rfl,rfl⟩:=HL.2 rfl;obtain⟨p,hp⟩:∃p,F.P[g.top+1+g.s]?=some p:=⟨_,eG (by have:=U.start;omega)⟩
          have ai:=Hd hp;obtain⟨hE,cf⟩:t=E/\Fo g t (g.top+1) f (R.set (g.top+1+g.s) (R.getD (g.top+1+g.s) 0|||1))=some C:=by
            have h0:=b1.out;split at h0
            ·cases h0
            ·rename_i X hX
             cases h0
             exact⟨rfl,hX⟩
          subst hE;have br:=Hd cf;have be:=U.start;clear hp cf b1 ag HL;go_upto_region 20 with fail
          have a3:Hid (∀y,Aj (XS F) w5 y->y.cell? (F.q,4)=some (.slice (hg,0) (g.top+1) cj)/\y.cell? (hg,g.s)=some (.pointer (p.h,0))/\y.cell? (w,3)=some (.int .i64 g.s)):=Hd (fun y o=>by obtain⟨-,-,-,-,q4⟩:=ab.at_.cells;rw[cm]at q4;have q5:=ab.at_.M1 cm ai be.2;exact⟨ab.cell o (M5 q4) q4 (fun z e=>by cases e),ab.cell o (M5 q5) q5 (fun z e=>by cases e),(HX y (b2.next o)).1.2⟩)
          obtain⟨s0,s1,s2⟩:=a3 w5 (Aj.refl _ _);have cb:Hid (() 106 #[(p.h,0),.int .i64 0] w5.drew fun e w'=>(∃b,e=.returned (.bool b))/\Bx w w' F g t (R.set (g.top+1+g.s) (R.getD (g.top+1+g.s) 0|||1))/\Aj (XS F) w5 w'):=Hd (by
            have aq:Below w5 w5 w5.drew:=⟨rfl,rfl,rfl,AF _,fun _ _=>rfl⟩
            have a9:=(ab.later aq).put (x:=0) ai (by omega);refine a9.mono ?_;rintro e w' ⟨he,j,I⟩;exact⟨he,j,(Aj.AJ aq).next I⟩)
          have cq:Hid (Fo g t (g.top+1) f (R.set (g.top+1+g.s) (R.getD (g.top+1+g.s) 0|||1))=some C):=br;generalize R.set (g.top+1+g.s) (R.getD (g.top+1+g.s) 0|||1)=Cs at *;generalize bf:g.top+1=tp at *;have cd:=Hd bf;have i2:(g.s:Int)<(tp:Int):=by omega
          have i1:(0:Int)<=(g.s:Int):=by omega
          clear br
          go_region_held3 (fun y=>y.cell? (F.q,4)=some (.slice (hg,0) tp cj)/\y.cell? (hg,g.s)=some (.pointer (p.h,0))/\y.cell? (w,3)=some (.int .i64 g.s))
            (first|exact a3 _ ⟨rfl,rfl,rfl,AF _,fun _ _ _=>rfl⟩|exact a3 _ a4)
            (first|(go_at_call 106;refine cb.mono ?_;rintro e w7 ⟨⟨b7,rfl⟩,ay,ao⟩;have aj:=Hd ay;have a4:=Hd ao;clear ay ao))
          have bz:=Hd (b2.next a4);obtain⟨⟨x2,x3⟩,-⟩:=HX w7 bz;clear s0 s1 s2 i1 i2 cb a3;go_wp2_with fail
          go_loopg [11] f (fun n mo wr=>∃(m:Bool) (C3:List Nat),mo=.bool m/\Hid (Bx w wr F g t C3)/\Hid (Aj (XS F) W2 wr)/\Hid ((m=true->Fo g t tp n C3=some C)/\(m=false->C3=C)))
          case atStart=>exact⟨true,Cs,rfl,aj,bz,Hd ⟨fun _=>cq,fun h=>by cases h⟩⟩
          case round=>
            obtain⟨m,C3,rfl,a7,aa,b3⟩:=hrel;rename World=>w9
            obtain⟨⟨x2,x3⟩,-⟩:=HX w9 aa;cases m with
            | false=>
             obtain rfl:=b3.2 rfl;go_wp2_with fail
             go_ret;exact⟨F,rfl,a7⟩
            | true=>
             cases gk with
             | zero=>have h0:=b3.1 rfl;rw[Fo]at h0;cases h0
             | succ n=>
              obtain⟨J,m4,aw,av⟩:∃J m4,FU g t tp g.R C3 false=(J,m4)/\((m4=true->Fo g t tp n J=some C)/\(m4=false->J=C)):=by
               have h0:=b3.1 rfl;rw[Fo]at h0;generalize FU g t tp g.R C3 false=bm at *;obtain⟨J,m4⟩:=bm;refine⟨J,m4,rfl,fun h=>?_,fun h=>?_⟩
               ·subst h;exact h0
               ·subst h
                simp only at h0;cases h0
                rfl
              have bj:=Hd aw;have bi:=Hd av;clear aw av b3;go_wp2_with fail
              go_loopw [11,115] (fun mo ii wr=>∃(k:Nat) (m:Bool) (C5:List Nat),k<=g.R.length/\ii=.int .i64 k/\mo=.bool m/\Hid (Bx w wr F g t C5)/\Hid (Aj (XS F) W2 wr)/\Hid (FU g t tp (g.R.drop k) C5 m=(J,m4))) (fun _ ii _=>g.R.length-(intOf ii).toNat)
              case atStart=>exact⟨0,false,C3,AX _,rfl,rfl,a7,aa,bj⟩
              case round=>
               obtain⟨k,m,C5,hk,rfl,rfl,bk,bv,b6⟩:=hrel;rename World=>bq
               by_cases au:k<g.R.length
               ·obtain⟨⟨i,l⟩,hr⟩:∃r,g.R[k]?=some r:=⟨_,eG au⟩
                obtain⟨b0,off,P,T,rfl,⟨bd,ax⟩,a8⟩:=bx k i l hr;obtain⟨e0,e1,bp⟩:=a8 bq bk.below;have ar:=IQ hr;rw[ar]at b6;obtain⟨C6,m6,bo⟩:∃C6 m6,ET g t tp i l C5 false=(C6,m6):=⟨_,_,rfl⟩
                have ca:Hid (FU g t tp (g.R.drop (k+1)) C6 (m||m6)=(J,m4)):=Hd (by have:=b6.out;rw[FU]at this;simp only[bo]at this;exact this);have cc:Hid (() 189 #[(F.q,0),.agg #[.int .i64 i,.slice P l.length T]] (bq.alloc (.cells #[.int .i64 i,.slice P l.length T] 119)) fun e w'=>e=.returned (.bool m6)/\Bx w w' F g t C6/\Aj (XS F) W2 w'):=Hd (by have hs:=bk.later (AG bq (.cells #[.int .i64 i,.slice P l.length T] 119));have a9:=hs.Bo (left:=i) ((a8 _ hs.below).2.2) ax bd;rw[cd.out,bo]at a9;refine a9.mono ?_;rintro e w' ⟨he,j,I⟩;exact⟨he,j,(bv.alloc _).next I⟩)
                clear a8 bp ax hr ar b6 bo;cases m
                ·go_wp2_with (go_at_call 189;refine cc.mono ?_;rintro e d5 ⟨rfl,j,I⟩;have H1:=Hd j;have H2:=Hd I;clear j I)
                 refine⟨?_,?_⟩
                 ·exact⟨k+1,_,C6,by omega,by go_num,rfl,H1,H2,ca⟩
                 ·simp[intOf];omega
                ·go_wp2_with (go_at_call 189;refine cc.mono ?_;rintro e d5 ⟨rfl,j,I⟩;have H1:=Hd j;have H2:=Hd I;clear j I)
                 refine⟨?_,?_⟩
                 ·exact⟨k+1,_,C6,by omega,by go_num,rfl,H1,H2,ca⟩
                 ·simp[intOf];omega
               ·obtain rfl:k=g.R.length:=by omega
                have e:=b6.out;rw[List.drop_length,FU]at e;cases e
                go_wp2_with fail
                go_roundg n
                case measure=>omega
                case rel=>exact⟨m4,J,rfl,bk,bv,bi⟩
end Go.Proofs.YtlogpnoioimhjaaGreatDoor
