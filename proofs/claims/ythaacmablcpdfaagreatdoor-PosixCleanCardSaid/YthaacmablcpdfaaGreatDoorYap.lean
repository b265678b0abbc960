/- The sets of a grammar. -/
import Derived.Test.YthaacmablcpdfaaGreatDoorYao
import Derived.Test.YthaacmablcpdfaaGreatDoorYac
import Derived.Test.YthaacmablcpdfaaGreatDoorYn
set_option linter.unusedVariables false
set_option maxRecDepth 100000
set_option maxHeartbeats 16000000
namespace Go.Proofs.YthaacmablcpdfaaGreatDoor
open Go.RowKit
theorem XA{w:World}{v:Value}{g:Gz}(h:GN w v g){f E:Nat}{C:List Nat}(hr:J9 g f=some (E,C)):Calls Tryz.prog 150 #[v] w fun e w'=>∃F:Fs,e=.returned (.pointer (some ⟨F.q,0,none⟩))/\Br w w' F g E C:=by
 have U:=h.fit;have de:=U.nr;have bw:Hid (∀y,Below w.heap.size w y->Calls Tryz.prog 35 #[v] y fun e w'=>e=.returned (.int .i64 0)/\Below y.heap.size y w'):=Hd (fun y o=>L0 (h.later o));have bl:Hid (∀y,Below w.heap.size w y->Calls Tryz.prog 38 #[v] y fun e w'=>e=.returned (.int .i64 g.top)/\Below y.heap.size y w'):=Hd (fun y o=>I3 (h.later o));have d6:=Hd h;obtain⟨AT,cT,AN,cN,AR,cR,rfl,hc,d9⟩:=h.open_;have HG:=Hd (Ah.new w 32 #[.slice AT g.nt cT,.slice AN g.nn cN,.slice AR g.R.length cR,.int .i64 g.s]);have bh:=Hd (Ay w (.cells #[.slice AT g.nt cT,.slice AN g.nn cN,.slice AR g.R.length cR,.int .i64 g.s] 32))
 have cr:=Hd hc;clear h hc;go_enter Tryz.func150,Tryz.ntmps150
 go_upto_region 3 with(go_at_call 35;refine(bw.out _ bh.out).mono ?_;rintro e w1 ⟨rfl,an⟩;have ag:=Hd an;clear an)
 go_cut [3] (fun p wx=>∃b:Nat,p=.pointer (some ⟨b,0,none⟩)/\Hid (Ah wx b 276 #[.int .i64 g.nt,.int .i64 g.top]/\Below w.heap.size w wx/\w.heap.size<b/\Ah wx w.heap.size 32 #[.slice AT g.nt cT,.slice AN g.nn cN,.slice AR g.R.length cR,.int .i64 g.s]))
 case first=>
  have ak:=Hd (bh.out.trans (ag.out.mono bh.out.size));have a5:=Hd (HG.out.below ag.out HG.out.lt);obtain⟨z0,z1,z2,z3⟩:w1.cell? ⟨w.heap.size,0,none⟩=some (.slice AT g.nt cT)/\w1.cell? ⟨w.heap.size,1,none⟩=some (.slice AN g.nn cN)/\w1.cell? ⟨w.heap.size,2,none⟩=some (.slice AR g.R.length cR)/\w1.cell? ⟨w.heap.size,3,none⟩=some (.int .i64 g.s):=⟨a5.out.cell 0,a5.out.cell 1,a5.out.cell 2,a5.out.cell 3⟩
  have az:=ak.out.size;have cl:=a5.out.lt;have cz:=Hd (bl.out w1.drew ak.out.drew);have d0:=Hd (bl.out ((w1.alloc (.cells #[.int .i64 0,.int .i64 0] 276)).drew) ((ak.out.alloc az _).drew));have HZ:Hid (Ah (w1.alloc (.cells #[.int .i64 0,.int .i64 0] 276)).drew w1.heap.size 276 #[.int .i64 0,.int .i64 0]):=Hd (Ah.drew (Ah.newAt rfl));go_region_law (first
   | (
     go_simp;go_at_call 38;first
       | (
          with_reducible refine cz.out.mono ?_
          rintro e w2 ⟨rfl,a1⟩;have b1:=Hd a1;have a6:=Hd (Ah.below (g:=w.heap.size) (Ah.drew a5.out) a1 cl);have a0:=Hd (ak.out.drew.trans (a1.mono az));have y0:=a6.out.cell 0;have cn:=a6.out.lt;simp at y0;clear a1)
       | (
          with_reducible refine d0.out.mono ?_
          rintro e w2 ⟨rfl,a1⟩;have b1:=Hd a1;have al:=Hd (HZ.out.below a1 HZ.out.lt);have k0:=al.out.cell 0;have k1:=al.out.cell 1;have k2:=al.out.frozen 0;have k3:=al.out.frozen 1;have a6:=Hd (Ah.below (g:=w.heap.size) (Ah.drew (Ah.alloc a5.out (.cells #[.int .i64 0,.int .i64 0] 276))) a1 (by simp;omega));have a0:=Hd (((ak.out.alloc az (.cells #[.int .i64 0,.int .i64 0] 276)).drew).trans (a1.mono (by simp;omega)));have y0:=a6.out.cell 0;have cn:=a6.out.lt;simp at k0 k1 y0;clear a1)))
  all_goals go_wp2_with fail
  all_goals go_meet
  all_goals first
   | exact⟨w2.heap.size,rfl,Hd ⟨Ah.newAt rfl,a0.out.alloc a0.out.size _,cn,a6.out.alloc _⟩⟩
   | exact⟨w1.heap.size,rfl,Hd ⟨(al.out.Bn 0 (.int .i64 g.nt)).Bn 1 (.int .i64 g.top),(a0.out.setCell (p:=⟨w1.heap.size,0,none⟩) az _).setCell (p:=⟨w1.heap.size,1,none⟩) az _,cl,(a6.out.BE (p:=⟨w1.heap.size,0,none⟩) (by show w.heap.size≠w1.heap.size;omega) _).BE (p:=⟨w1.heap.size,1,none⟩) (by show w.heap.size≠w1.heap.size;omega) _⟩⟩
 case rest=>
  obtain⟨b,rfl,HB⟩:=hcut;rename World=>W
  have cg:=HB.out.2.1.size;have ba:=HB.out.1.lt;have d2:=HB.out.2.2.1;have cv:Hid (∀y,Calls Tryz.prog 84 #[.int .i64 ((g.top:Int)+1)] y fun e w'=>e=.returned (.pointer (some ⟨y.heap.size+1,0,none⟩))/\AK w' ⟨y.heap.size+1,y.heap.size,g.top+1⟩ 0/\Below y.heap.size y w'):=Hd (fun y=>JP (w:=y) (n:=g.top+1) (by omega) (by have:=U.nt;have:=U.nn;unfold Gz.top;omega));have ct:Hid (∀y,Calls Tryz.prog 196 #[.int .i64 ((g.top:Int)+1),.int .i64 ((g.nt:Int)+1)] y fun e w'=>∃Ao co b8,e=.returned (.slice Ao (g.top+1) co)/\JA y.heap.size w'.heap.size w' (g.nt+1) (g.top+1) (.slice Ao (g.top+1) co) b8/\Below y.heap.size y w'):=Hd (fun y=>(Yn (w:=y) (k:=g.top+1) (n:=g.nt+1) (by have:=U.nt;have:=U.nn;unfold Gz.top;omega) (by omega) (by have:=U.nt;omega)).mono (by
   rintro e w' ⟨di,he,hf⟩;obtain⟨b8,hP⟩:=hf.at_;obtain⟨Ao,co,rfl⟩:=hP.row;exact⟨Ao,co,b8,he,hP,hf.below⟩))
  go_upto_region 4 with fail
  go_cut [4] (fun p wx=>∃F:Fs,p=.pointer (some ⟨F.q,0,none⟩)/\Hid (Br w wx F g 0 (List.replicate (2*(g.top+1)) 0)/\Ah wx w.heap.size 32 #[.slice AT g.nt cT,.slice AN g.nn cN,.slice AR g.R.length cR,.int .i64 g.s]/\Ah wx b 276 #[.int .i64 g.nt,.int .i64 g.top]/\w.heap.size<F.q))
  case first=>
   have k0:=HB.out.1.cell 0;have k1:=HB.out.1.cell 1;simp at k0 k1;have HK:Hid (∀y,Below W.heap.size W y->y.cell? ⟨b,0,none⟩=some (.int .i64 g.nt)/\y.cell? ⟨b,1,none⟩=some (.int .i64 g.top)):=Hd (fun y o=>⟨(HB.out.1.below o ba).cell 0,(HB.out.1.below o ba).cell 1⟩);have a0:Hid (Below W.heap.size W W.drew):=Hd ⟨rfl,rfl,rfl,AG _,fun _ _=>rfl⟩;have dg:W.drew.heap.size=W.heap.size:=rfl;have db:IntKind.i64.wrap ((g.top:Int)+1)=(g.top:Int)+1:=by rw[IntKind.wrap_i64];have:=U.nt;have:=U.nn;unfold Gz.top;omega
   have dc:IntKind.i64.wrap ((g.nt:Int)+1)=(g.nt:Int)+1:=by rw[IntKind.wrap_i64];have:=U.nt;omega
   go_region_held3 (fun y=>y.cell? ⟨b,0,none⟩=some (.int .i64 g.nt)/\y.cell? ⟨b,1,none⟩=some (.int .i64 g.top))
    (first|exact HK.out _ a0.out|exact HK.out _ (a0.out.alloc (by omega) _))
    (first
      | (
         go_at_call 84
         refine(cv.out _).mono ?_;rintro e w2 ⟨rfl,hs,hb⟩;have HE:=Hd hs;have d3:=hs.words.lt;have d4:=hb.size;have ah:=Hd (a0.out.trans (hb.mono a0.out.size))
         (try (have af:=Hd (HA.out.later hb);clear HA;have HA:=af;clear af))
         (try (have c0:=Hd (HD.out.later hb);clear HD;have HD:=c0;clear c0))
         clear hs hb a0;have a0:=ah;clear ah)
      | (
         go_at_call 196
         refine(ct.out _).mono ?_;rintro e w2 ⟨Ao,co,b8,rfl,hf,hb⟩;have d4:=hb.size;have ah:=Hd (a0.out.trans (hb.mono a0.out.size))
         (try (have c7:=Hd (HE.out.later hb);clear HE;have HE:=c7;clear c7))
         first
           | (have af:=Hd (HA.out.later hb);clear HA;have HA:=af;clear af;have HD:=Hd hf)
           | (have HA:=Hd hf)
         clear hf hb a0;have a0:=ah;clear ah))
   go_wp2_with fail
   go_meet
   have b9:=a0.out;have d1:=b9.size;refine⟨⟨w2.heap.size,⟨W.heap.size+1,W.heap.size,g.top+1⟩,_,_,_⟩,rfl,Hd ⟨Br.make (Ah.newAt rfl) (HE.out.later (Ay _ _)) rfl (by have:=U.nt;have:=U.nn;unfold Gz.top;omega) (HA.out.later (Ay _ _)) (HD.out.later (Ay _ _)) (HB.out.2.1.trans ((b9.alloc d1 _).mono cg)) ?_ ?_ ?_ ?_,((HB.out.2.2.2.below b9 (by omega)).alloc _),(HB.out.1.below b9 ba).alloc _,?_⟩⟩;all_goals (try simp only at d3 ⊢)
   all_goals omega
  case rest=>
   obtain⟨F,rfl,HF⟩:=hcut;rename World=>W2
   have HX:Hid (∀y,Aj (XS F) W2 y->(y.cell? ⟨w.heap.size,2,none⟩=some (.slice AR g.R.length cR)/\y.cell? ⟨w.heap.size,3,none⟩=some (.int .i64 g.s))/\y.cell? ⟨b,0,none⟩=some (.int .i64 g.nt)):=Hd (fun y o=>by have z:=o.An HF.out.2.1 (HF.out.1.no HF.out.2.1 (by decide));have z2:=o.An HF.out.2.2.1 (HF.out.1.no HF.out.2.2.1 (by decide));exact⟨⟨z.cell 2,z.cell 3⟩,z2.cell 0⟩)
   obtain⟨⟨x2,x3⟩,x4⟩:=HX.out W2 (Aj.refl _ _);have c8:Hid (Br w W2 F g 0 (Gu g 0)):=Hd (by rw[ZQ];exact HF.out.1);have d7:=HF.out.1.at_.Iq;obtain⟨bg,bc,hg,cj,bb,cm,d8,da⟩:=HF.out.1.at_.open_;have df:=U.nt;have dd:=U.nn;have dh:g.top=g.nt+g.nn:=rfl;clear HF ba cg d2;go_wp2_with fail
   go_loopw [48] (fun ii wr=>∃a2:Nat,a2<=g.nt+1/\ii=.int .i64 a2/\Hid (Br w wr F g 0 (Gu g a2))/\Hid (Aj (XS F) W2 wr)) (fun ii _=>g.nt+1-(intOf ii).toNat)
   case atStart=>exact⟨0,AP _,rfl,c8,Hd (Aj.refl _ _)⟩
   case round=>
    obtain⟨a2,hj,rfl,HS,HC⟩:=hrel;by_cases au:a2<g.nt+1
    · obtain⟨p,hp⟩:∃p,F.P[a2]?=some p:=⟨_,eG (by omega)⟩
      have cx:Hid (Calls Tryz.prog 86 #[.pointer (some ⟨p.h,0,none⟩),.int .i64 a2] wr fun e w'=>(∃b,e=.returned (.bool b))/\Br w w' F g 0 (Gu g (a2+1))/\Aj (XS F) W2 w'):=Hd ((HS.out.put hp au).mono (by rintro e w' ⟨he,j,I⟩;rw[WR (by omega)]at j;exact⟨he,j,HC.out.next I⟩))
      obtain⟨-,-,-,q3,-⟩:=HS.out.at_.cells;rw[bb]at q3;have q5:=HS.out.at_.LN bb hp (by omega);clear hp;go_wp2_with (go_at_call 86;refine cx.out.mono ?_;rintro e w' ⟨⟨b',rfl⟩,j,I⟩;have H1:=Hd j;have H2:=Hd I;clear j I)
      go_roundw
      case rel=>exact⟨a2+1,by omega,by go_num,H1,H2⟩
      case measure=>simp[intOf];omega
    · obtain rfl:a2=g.nt+1:=by omega
      rw[Wv]at HS;obtain⟨E1,C1,an,a1⟩:∃E1 C1,F6 g f 0 (Jl g)=some (E1,C1)/\(match Fk g E1 (g.top+1) f (C1.set (g.top+1+g.s) (C1.getD (g.top+1+g.s) 0|||1)) with|none=>none|some R=>some (E1,R))=some (E,C):=by
        unfold J9 at hr;split at hr
        · cases hr
        · rename_i E1 C1 j
          exact⟨E1,C1,j,hr⟩
      have b1:=Hd a1;have ag:=Hd an;clear an a1 hr c8 bl bw x4;have bx:Hid (∀k i l,g.R[k]?=some (i,l)->∃b0 off P T,AR=some ⟨b0,off,none⟩/\(i<=g.top/\∀x∈l,x<=g.top)/\∀y,Below w.heap.size w y->y.cell? ⟨b0,off+k*2,none⟩=some (.int .i64 i)/\y.cell? ⟨b0,off+k*2+1,none⟩=some (.slice P l.length T)/\Bz y (.slice P l.length T) l):=Hd (fun k i l hk=>by obtain⟨b0,off,rv,hA,cp,e0,e1,hn⟩:=cr.out k _ hk;obtain⟨⟨P,T,hv,-⟩,-,-⟩:=id hn;subst hv;have hm:=mG hk;exact⟨b0,off,P,T,hA,⟨(U.left _ hm).2,fun x hx=>(U.right _ hm x hx).2⟩,fun y o=>⟨(o.cell (p:=⟨b0,off+k*2,none⟩) cp).trans e0,(o.cell (p:=⟨b0,off+k*2+1,none⟩) cp).trans e1,hn.later o⟩⟩)
      go_wp2_with fail
      go_loopg [6] f (fun n mo wr=>∃(m:Bool) (t:Nat) (R:List Nat),mo=.bool m/\Hid (Br w wr F g t R)/\Hid (Aj (XS F) W2 wr)/\Hid ((m=true->F6 g n t R=some (E1,C1))/\(m=false->t=E1/\R=C1)))
      case atStart=>exact⟨true,0,Jl g,rfl,HS,HC,Hd ⟨fun _=>ag.out,fun h=>by cases h⟩⟩
      case round=>
        obtain⟨m,t,R,rfl,ab,b2,HL⟩:=hrel;rename World=>w5
        obtain⟨⟨x2,x3⟩,-⟩:=HX.out w5 b2.out;cases m with
        | true=>
          cases gk with
          | zero=>have h0:=HL.out.1 rfl;rw[F6]at h0;cases h0
          | succ n=>
            obtain⟨E2,C2,m2,aw,av⟩:∃E2 C2 m2,DC g.R t R false=(E2,C2,m2)/\((m2=true->F6 g n E2 C2=some (E1,C1))/\(m2=false->E2=E1/\C2=C1)):=by
             have h0:=HL.out.1 rfl;rw[F6]at h0;generalize DC g.R t R false=bm at *;obtain⟨E2,C2,m2⟩:=bm;refine⟨E2,C2,m2,rfl,fun h=>?_,fun h=>?_⟩
             ·subst h;exact h0
             ·subst h
              simp only at h0;cases h0
              exact⟨rfl,rfl⟩
            have bj:=Hd aw;have bi:=Hd av;clear aw av HL;go_wp2_with fail
            go_loopw [6,65] (fun mo ii wr=>∃(k:Nat) (m:Bool) (E3:Nat) (C3:List Nat),k<=g.R.length/\ii=.int .i64 k/\mo=.bool m/\Hid (Br w wr F g E3 C3)/\Hid (Aj (XS F) W2 wr)/\Hid (DC (g.R.drop k) E3 C3 m=(E2,C2,m2))) (fun _ ii _=>g.R.length-(intOf ii).toNat)
            case atStart=>exact⟨0,false,t,R,AP _,rfl,rfl,ab,b2,bj⟩
            case round=>
             obtain⟨k,m,E3,C3,hk,rfl,rfl,a7,aa,b4⟩:=hrel;rename World=>w6
             by_cases au:k<g.R.length
             ·obtain⟨⟨i,l⟩,hr⟩:∃r,g.R[k]?=some r:=⟨_,eG au⟩
              obtain⟨b0,off,P,T,rfl,⟨bd,ax⟩,a8⟩:=bx.out k i l hr;obtain⟨e0,e1,bp⟩:=a8 w6 a7.out.below;have cu:Hid (∀y,Below w.heap.size w y->Bz y (.slice P l.length T) l):=Hd (fun y o=>(a8 y o).2.2);have cy:=Hd ax;have ar:=Er hr;rw[ar]at b4;obtain⟨p,hp⟩:∃p,F.P[i]?=some p:=⟨_,eG (by omega)⟩
              have ai:=Hd hp;obtain⟨J,m4,ae,bn⟩:∃J m4 ae,DF E3 i l C3 false=(J,m4,ae):=⟨_,_,_,rfl⟩
              have b5:Hid (DC (g.R.drop (k+1)) (if ae then E3|||2 ^ i else E3) J (m||((ae&&!E3.testBit i)||m4))=(E2,C2,m2)):=Hd (by have:=b4.out;rw[DC]at this;simp only[bn]at this;exact this);have bt:=Hd (Ah.new w6 65 #[.int .i64 i,.slice P l.length T]);have ad:=Hd (a7.out.later (Ay w6 (.cells #[.int .i64 i,.slice P l.length T] 65)));have bu:=Hd (aa.out.alloc (.cells #[.int .i64 i,.slice P l.length T] 65));clear a8 bp ax hr ar hp b4 a7 aa;go_upto_region 16 with fail
              generalize w6.alloc (.cells #[.int .i64 i,.slice P l.length T] 65)=W6 at *;generalize w6.heap.size=rb at *;have a3:Hid (∀y,Aj (XS F) W6 y->y.cell? ⟨F.q,3,none⟩=some (.slice (some ⟨bg,0,none⟩) (g.top+1) bc)/\y.cell? ⟨bg,i,none⟩=some (.pointer (some ⟨p.h,0,none⟩))/\y.cell? ⟨rb,0,none⟩=some (.int .i64 i)/\y.cell? ⟨rb,1,none⟩=some (.slice P l.length T)):=Hd (fun y o=>by obtain⟨-,-,-,q3,-⟩:=ad.out.at_.cells;rw[bb]at q3;have q5:=ad.out.at_.LN bb ai.out bd;have ch:=o.An bt.out (ad.out.no bt.out (by decide));exact⟨ad.out.cell o (MG q3) q3 (fun z e=>by cases e),ad.out.cell o (MG q5) q5 (fun z e=>by cases e),ch.cell 0,ch.cell 1⟩)
              obtain⟨s0,s1,s2,s3⟩:=a3.out W6 (Aj.refl _ _);have c9:Hid (Calls Tryz.prog 197 #[.pointer (some ⟨F.q,0,none⟩),.pointer (some ⟨p.h,0,none⟩),.slice P l.length T] W6.drew fun e w'=>e=.returned (.tuple #[.bool m4,.bool ae])/\Br w w' F g E3 J/\Aj (XS F) W6 w'):=Hd (by
               have aq:Below W6.heap.size W6 W6.drew:=⟨rfl,rfl,rfl,AG _,fun _ _=>rfl⟩
               have be:=ad.out.later aq;have a9:=be.line ai.out (cu.out _ be.below) cy.out;rw[bn]at a9;refine a9.mono ?_;rintro e w' ⟨he,j,I⟩;exact⟨he,j,(Aj.AH aq).next I⟩)
              generalize bf:g.top+1=tp at *;have cd:=Hd bf;have i2:(i:Int)<(tp:Int):=by omega
              have i1:(0:Int)<=(i:Int):=by omega
              clear bf bn
              go_region_held3 (fun y=>y.cell? ⟨F.q,3,none⟩=some (.slice (some ⟨bg,0,none⟩) tp bc)/\y.cell? ⟨bg,i,none⟩=some (.pointer (some ⟨p.h,0,none⟩))/\y.cell? ⟨rb,0,none⟩=some (.int .i64 i)/\y.cell? ⟨rb,1,none⟩=some (.slice P l.length T))
               (first|exact a3.out _ ⟨rfl,rfl,rfl,AG _,fun _ _ _=>rfl⟩|exact a3.out _ a4.out)
               (first|(go_at_call 197;refine c9.out.mono ?_;rintro e w7 ⟨rfl,ay,ao⟩;have aj:=Hd ay;have a4:=Hd ao;clear ay ao))
              clear s0 s1 s2 s3 i1 i2 c9;go_upto_region 17 with fail
              have c6:Hid (Below w7.heap.size w7 w7.drew):=Hd ⟨rfl,rfl,rfl,AG _,fun _ _=>rfl⟩;obtain⟨-,-,q2,-,-⟩:=aj.out.at_.cells;obtain⟨-,-,q4,-⟩:=a3.out w7 a4.out;have cw:Hid (Calls Tryz.prog 86 #[.pointer (some ⟨F.e.h,0,none⟩),.int .i64 i] w7.drew fun e w'=>e=.returned (.bool (!E3.testBit i))/\Br w w' F g (E3|||2 ^ i) J/\Aj (XS F) W2 w'):=Hd (by refine((aj.out.later c6.out).WY bd).mono ?_;rintro e w' ⟨he,j,I⟩;exact⟨he,j,((bu.out.next a4.out).next (Aj.AH c6.out)).next I⟩)
              have cs:Hid (∀n,Br w (w7.drewN n) F g E3 J/\Aj (XS F) W2 (w7.drewN n)):=Hd (fun n=>by
               have ck:Below w7.heap.size w7 (w7.drewN n):=⟨rfl,rfl,rfl,AG _,fun _ _=>rfl⟩
               exact⟨aj.out.later ck,(bu.out.next a4.out).next (Aj.AH ck)⟩)
              cases ae with
              | false=>
               go_quiet (fail)
               obtain⟨H1,H2⟩:=cs.out nq;have H1:=Hd H1;have H2:=Hd H2;cases m
               ·go_wp2_with fail
                refine⟨?_,?_⟩
                ·repeat apply Exists.intro
                 refine⟨?_,rfl⟩;exact⟨k+1,_,E3,J,by omega,by go_num,rfl,H1,H2,b5⟩
                ·simp[intOf];omega
               ·go_wp2_with fail
                refine⟨?_,?_⟩
                ·repeat apply Exists.intro
                 refine⟨?_,rfl⟩;exact⟨k+1,_,E3,J,by omega,by go_num,rfl,H1,H2,b5⟩
                ·simp[intOf];omega
              | true=>
               generalize E3.testBit i=tb at *;cases tb
               all_goals first
                | (go_region_law (first|(go_simp;go_at_call 86;refine cw.out.mono ?_;rintro e w8 ⟨rfl,j,I⟩;have H1:=Hd j;have H2:=Hd I;clear j I)))
                | fail
               all_goals cases m
               all_goals cases m4
               all_goals go_wp2_with fail
               all_goals refine⟨?_,?_⟩
               all_goals first
                | (simp[intOf];omega;done)
                | exact⟨_,_,_,_,_,⟨k+1,by omega,rfl,.inl ⟨rfl,_,_,H1,b5⟩⟩,rfl,rfl,rfl,rfl,by go_num⟩
                | exact⟨_,_,_,_,_,⟨k+1,by omega,rfl,.inr ⟨rfl,_,_,H1,b5⟩⟩,rfl,rfl,rfl,rfl,by go_num⟩
                | trace_state
             ·obtain rfl:k=g.R.length:=by omega
              have e:=b4.out;rw[List.drop_length,DC]at e;cases e
              go_wp2_with fail
              go_roundg n
              case measure=>omega
              case rel=>exact⟨m2,E2,C2,rfl,a7,aa,bi⟩
        | false=>
          obtain⟨rfl,rfl⟩:=HL.out.2 rfl;obtain⟨p,hp⟩:∃p,F.P[g.top+1+g.s]?=some p:=⟨_,eG (by have:=U.start;omega)⟩
          have ai:=Hd hp;obtain⟨hE,cf⟩:t=E/\Fk g t (g.top+1) f (R.set (g.top+1+g.s) (R.getD (g.top+1+g.s) 0|||1))=some C:=by
            have h0:=b1.out;split at h0
            ·cases h0
            ·rename_i X hX
             cases h0
             exact⟨rfl,hX⟩
          subst hE;have br:=Hd cf;have be:=U.start;clear hp cf b1 ag HL;go_upto_region 20 with fail
          have a3:Hid (∀y,Aj (XS F) w5 y->y.cell? ⟨F.q,4,none⟩=some (.slice (some ⟨hg,0,none⟩) (g.top+1) cj)/\y.cell? ⟨hg,g.s,none⟩=some (.pointer (some ⟨p.h,0,none⟩))/\y.cell? ⟨w.heap.size,3,none⟩=some (.int .i64 g.s)):=Hd (fun y o=>by obtain⟨-,-,-,-,q4⟩:=ab.out.at_.cells;rw[cm]at q4;have q5:=ab.out.at_.Mp cm ai.out be.2;exact⟨ab.out.cell o (MG q4) q4 (fun z e=>by cases e),ab.out.cell o (MG q5) q5 (fun z e=>by cases e),(HX.out y (b2.out.next o)).1.2⟩)
          obtain⟨s0,s1,s2⟩:=a3.out w5 (Aj.refl _ _);have cb:Hid (Calls Tryz.prog 86 #[.pointer (some ⟨p.h,0,none⟩),.int .i64 0] w5.drew fun e w'=>(∃b,e=.returned (.bool b))/\Br w w' F g t (R.set (g.top+1+g.s) (R.getD (g.top+1+g.s) 0|||1))/\Aj (XS F) w5 w'):=Hd (by
            have aq:Below w5.heap.size w5 w5.drew:=⟨rfl,rfl,rfl,AG _,fun _ _=>rfl⟩
            have a9:=(ab.out.later aq).put (x:=0) ai.out (by omega);refine a9.mono ?_;rintro e w' ⟨he,j,I⟩;exact⟨he,j,(Aj.AH aq).next I⟩)
          have cq:Hid (Fk g t (g.top+1) f (R.set (g.top+1+g.s) (R.getD (g.top+1+g.s) 0|||1))=some C):=br;generalize R.set (g.top+1+g.s) (R.getD (g.top+1+g.s) 0|||1)=Cs at *;generalize bf:g.top+1=tp at *;have cd:=Hd bf;have i2:(g.s:Int)<(tp:Int):=by omega
          have i1:(0:Int)<=(g.s:Int):=by omega
          clear br
          go_region_held3 (fun y=>y.cell? ⟨F.q,4,none⟩=some (.slice (some ⟨hg,0,none⟩) tp cj)/\y.cell? ⟨hg,g.s,none⟩=some (.pointer (some ⟨p.h,0,none⟩))/\y.cell? ⟨w.heap.size,3,none⟩=some (.int .i64 g.s))
            (first|exact a3.out _ ⟨rfl,rfl,rfl,AG _,fun _ _ _=>rfl⟩|exact a3.out _ a4.out)
            (first|(go_at_call 86;refine cb.out.mono ?_;rintro e w7 ⟨⟨b7,rfl⟩,ay,ao⟩;have aj:=Hd ay;have a4:=Hd ao;clear ay ao))
          have bz:=Hd (b2.out.next a4.out);obtain⟨⟨x2,x3⟩,-⟩:=HX.out w7 bz.out;clear s0 s1 s2 i1 i2 cb a3;go_wp2_with fail
          go_loopg [11] f (fun n mo wr=>∃(m:Bool) (C3:List Nat),mo=.bool m/\Hid (Br w wr F g t C3)/\Hid (Aj (XS F) W2 wr)/\Hid ((m=true->Fk g t tp n C3=some C)/\(m=false->C3=C)))
          case atStart=>exact⟨true,Cs,rfl,aj,bz,Hd ⟨fun _=>cq.out,fun h=>by cases h⟩⟩
          case round=>
            obtain⟨m,C3,rfl,a7,aa,b3⟩:=hrel;rename World=>w9
            obtain⟨⟨x2,x3⟩,-⟩:=HX.out w9 aa.out;cases m with
            | false=>
             obtain rfl:=b3.out.2 rfl;go_wp2_with fail
             go_ret;exact⟨F,rfl,a7.out⟩
            | true=>
             cases gk with
             | zero=>have h0:=b3.out.1 rfl;rw[Fk]at h0;cases h0
             | succ n=>
              obtain⟨J,m4,aw,av⟩:∃J m4,FK g t tp g.R C3 false=(J,m4)/\((m4=true->Fk g t tp n J=some C)/\(m4=false->J=C)):=by
               have h0:=b3.out.1 rfl;rw[Fk]at h0;generalize FK g t tp g.R C3 false=bm at *;obtain⟨J,m4⟩:=bm;refine⟨J,m4,rfl,fun h=>?_,fun h=>?_⟩
               ·subst h;exact h0
               ·subst h
                simp only at h0;cases h0
                rfl
              have bj:=Hd aw;have bi:=Hd av;clear aw av b3;go_wp2_with fail
              go_loopw [11,115] (fun mo ii wr=>∃(k:Nat) (m:Bool) (C5:List Nat),k<=g.R.length/\ii=.int .i64 k/\mo=.bool m/\Hid (Br w wr F g t C5)/\Hid (Aj (XS F) W2 wr)/\Hid (FK g t tp (g.R.drop k) C5 m=(J,m4))) (fun _ ii _=>g.R.length-(intOf ii).toNat)
              case atStart=>exact⟨0,false,C3,AP _,rfl,rfl,a7,aa,bj⟩
              case round=>
               obtain⟨k,m,C5,hk,rfl,rfl,bk,bv,b6⟩:=hrel;rename World=>bq
               by_cases au:k<g.R.length
               ·obtain⟨⟨i,l⟩,hr⟩:∃r,g.R[k]?=some r:=⟨_,eG au⟩
                obtain⟨b0,off,P,T,rfl,⟨bd,ax⟩,a8⟩:=bx.out k i l hr;obtain⟨e0,e1,bp⟩:=a8 bq bk.out.below;have ar:=Er hr;rw[ar]at b6;obtain⟨C6,m6,bo⟩:∃C6 m6,EL g t tp i l C5 false=(C6,m6):=⟨_,_,rfl⟩
                have ca:Hid (FK g t tp (g.R.drop (k+1)) C6 (m||m6)=(J,m4)):=Hd (by have:=b6.out;rw[FK]at this;simp only[bo]at this;exact this);have cc:Hid (Calls Tryz.prog 198 #[.pointer (some ⟨F.q,0,none⟩),.agg #[.int .i64 i,.slice P l.length T]] (bq.alloc (.cells #[.int .i64 i,.slice P l.length T] 65)) fun e w'=>e=.returned (.bool m6)/\Br w w' F g t C6/\Aj (XS F) W2 w'):=Hd (by have hs:=bk.out.later (Ay bq (.cells #[.int .i64 i,.slice P l.length T] 65));have a9:=hs.Cf (left:=i) ((a8 _ hs.below).2.2) ax bd;rw[cd.out,bo]at a9;refine a9.mono ?_;rintro e w' ⟨he,j,I⟩;exact⟨he,j,(bv.out.alloc _).next I⟩)
                clear a8 bp ax hr ar b6 bo;cases m
                ·go_wp2_with (go_at_call 198;refine cc.out.mono ?_;rintro e d5 ⟨rfl,j,I⟩;have H1:=Hd j;have H2:=Hd I;clear j I)
                 refine⟨?_,?_⟩
                 ·exact⟨k+1,_,C6,by omega,by go_num,rfl,H1,H2,ca⟩
                 ·simp[intOf];omega
                ·go_wp2_with (go_at_call 198;refine cc.out.mono ?_;rintro e d5 ⟨rfl,j,I⟩;have H1:=Hd j;have H2:=Hd I;clear j I)
                 refine⟨?_,?_⟩
                 ·exact⟨k+1,_,C6,by omega,by go_num,rfl,H1,H2,ca⟩
                 ·simp[intOf];omega
               ·obtain rfl:k=g.R.length:=by omega
                have e:=b6.out;rw[List.drop_length,FK]at e;cases e
                go_wp2_with fail
                go_roundg n
                case measure=>omega
                case rel=>exact⟨m4,J,rfl,bk,bv,bi⟩
end Go.Proofs.YthaacmablcpdfaaGreatDoor
