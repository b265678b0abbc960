/- The sets of a grammar. The builder. The builder. The builder. The builder. The builder. The builder. slices. -/
import Derived.Test.YthaacmablcpdfaaGreatDoorZau
import Derived.Test.YthaacmablcpdfaaGreatDoorZbe
import Derived.BigRegion
import Derived.BigQuiet
import Derived.Test.YthaacmablcpdfaaGreatDoorNm
namespace Go.Proofs.YthaacmablcpdfaaGreatDoor
open Go.RowKit
set_option linter.unusedVariables false
set_option maxRecDepth 100000
set_option maxHeartbeats 6400000 in
theorem fof_any{w:World}{v:Value}{g:Gz}(h:GN w v g){f E:Nat}{C:List Nat}(hr:firstOf g f=some (E,C)):Calls Tryz.prog 150 #[v] w fun e w'=>∃F:Fs,e=.returned (.pointer (some ⟨F.q,0,none⟩))∧FStat w w' F g E C:=by
 have hfit:=h.fit;have hnr:=hfit.nr;have HCK:Hid (∀y,Below w.heap.size w y→Calls Tryz.prog 35 #[v] y fun e w'=>e=.returned (.int .i64 0)∧Below y.heap.size y w'):=Hd (fun y hy=>checkN_any (h.later hy));have HTP:Hid (∀y,Below w.heap.size w y→Calls Tryz.prog 38 #[v] y fun e w'=>e=.returned (.int .i64 g.top)∧Below y.heap.size y w'):=Hd (fun y hy=>topN_any (h.later hy));have HGN:=Hd h;obtain⟨AT,cT,AN,cN,AR,cR,rfl,hc,hcR⟩:=h.open_;have HG:=Hd (Blk.new w 32 #[.slice AT g.nt cT,.slice AN g.nn cN,.slice AR g.R.length cR,.int .i64 g.s]);have HGB:=Hd (below_alloc w (.cells #[.slice AT g.nt cT,.slice AN g.nn cN,.slice AR g.R.length cR,.int .i64 g.s] 32))
 have HC0:=Hd hc;clear h hc;go_enter Tryz.func150,Tryz.ntmps150
 go_upto_region 3 with(go_at_call 35;refine(HCK.out _ HGB.out).mono ?_;rintro e w1 ⟨rfl,hb1⟩;have HB1:=Hd hb1;clear hb1)
 go_cut [3] (fun p wx=>∃b:Nat,p=.pointer (some ⟨b,0,none⟩)∧Hid (Blk wx b 276 #[.int .i64 g.nt,.int .i64 g.top]∧Below w.heap.size w wx∧w.heap.size<b∧Blk wx w.heap.size 32 #[.slice AT g.nt cT,.slice AN g.nn cN,.slice AR g.R.length cR,.int .i64 g.s]))
 case first=>
  have HW1:=Hd (HGB.out.trans (HB1.out.mono HGB.out.size));have HG1:=Hd (HG.out.below HB1.out HG.out.lt);obtain⟨z0,z1,z2,z3⟩:w1.cell? ⟨w.heap.size,0,none⟩=some (.slice AT g.nt cT)∧w1.cell? ⟨w.heap.size,1,none⟩=some (.slice AN g.nn cN)∧w1.cell? ⟨w.heap.size,2,none⟩=some (.slice AR g.R.length cR)∧w1.cell? ⟨w.heap.size,3,none⟩=some (.int .i64 g.s):=⟨HG1.out.cell 0,HG1.out.cell 1,HG1.out.cell 2,HG1.out.cell 3⟩
  have hws:=HW1.out.size;have hglt:=HG1.out.lt;have HT1:=Hd (HTP.out w1.drew HW1.out.drew);have HT2:=Hd (HTP.out ((w1.alloc (.cells #[.int .i64 0,.int .i64 0] 276)).drew) ((HW1.out.alloc hws _).drew));have HZ:Hid (Blk (w1.alloc (.cells #[.int .i64 0,.int .i64 0] 276)).drew w1.heap.size 276 #[.int .i64 0,.int .i64 0]):=Hd (Blk.drew (Blk.newAt rfl));go_region_law (first
   | (
     go_simp;go_at_call 38;first
       | (
          with_reducible refine HT1.out.mono ?_
          rintro e w2 ⟨rfl,hb2⟩;have HB2:=Hd hb2;have HGX:=Hd (Blk.below (g:=w.heap.size) (Blk.drew HG1.out) hb2 hglt);have HBW:=Hd (HW1.out.drew.trans (hb2.mono hws));have y0:=HGX.out.cell 0;have hl2:=HGX.out.lt;simp at y0;clear hb2)
       | (
          with_reducible refine HT2.out.mono ?_
          rintro e w2 ⟨rfl,hb2⟩;have HB2:=Hd hb2;have HZ2:=Hd (HZ.out.below hb2 HZ.out.lt);have k0:=HZ2.out.cell 0;have k1:=HZ2.out.cell 1;have k2:=HZ2.out.frozen 0;have k3:=HZ2.out.frozen 1;have HGX:=Hd (Blk.below (g:=w.heap.size) (Blk.drew (Blk.alloc HG1.out (.cells #[.int .i64 0,.int .i64 0] 276))) hb2 (by simp;omega));have HBW:=Hd (((HW1.out.alloc hws (.cells #[.int .i64 0,.int .i64 0] 276)).drew).trans (hb2.mono (by simp;omega)));have y0:=HGX.out.cell 0;have hl2:=HGX.out.lt;simp at k0 k1 y0;clear hb2)))
  all_goals go_wp2_with fail
  all_goals go_meet
  all_goals first
   | exact⟨w2.heap.size,rfl,Hd ⟨Blk.newAt rfl,HBW.out.alloc HBW.out.size _,hl2,HGX.out.alloc _⟩⟩
   | exact⟨w1.heap.size,rfl,Hd ⟨(HZ2.out.set_ 0 (.int .i64 g.nt)).set_ 1 (.int .i64 g.top),(HBW.out.setCell (p:=⟨w1.heap.size,0,none⟩) hws _).setCell (p:=⟨w1.heap.size,1,none⟩) hws _,hglt,(HGX.out.far (p:=⟨w1.heap.size,0,none⟩) (by show w.heap.size≠w1.heap.size;omega) _).far (p:=⟨w1.heap.size,1,none⟩) (by show w.heap.size≠w1.heap.size;omega) _⟩⟩
 case rest=>
  obtain⟨b,rfl,HB⟩:=hcut;rename World=>W
  have hWs:=HB.out.2.1.size;have hbl:=HB.out.1.lt;have hbw:=HB.out.2.2.1;have HNW:Hid (∀y,Calls Tryz.prog 84 #[.int .i64 ((g.top:Int)+1)] y fun e w'=>e=.returned (.pointer (some ⟨y.heap.size+1,0,none⟩))∧SetAt w' ⟨y.heap.size+1,y.heap.size,g.top+1⟩ 0∧Below y.heap.size y w'):=Hd (fun y=>new_any (w:=y) (n:=g.top+1) (by omega) (by have:=hfit.nt;have:=hfit.nn;unfold Gz.top;omega));have HFR:Hid (∀y,Calls Tryz.prog 196 #[.int .i64 ((g.top:Int)+1),.int .i64 ((g.nt:Int)+1)] y fun e w'=>∃Ao co P,e=.returned (.slice Ao (g.top+1) co)∧FreshAt y.heap.size w'.heap.size w' (g.nt+1) (g.top+1) (.slice Ao (g.top+1) co) P∧Below y.heap.size y w'):=Hd (fun y=>(fresh_any (w:=y) (k:=g.top+1) (n:=g.nt+1) (by have:=hfit.nt;have:=hfit.nn;unfold Gz.top;omega) (by omega) (by have:=hfit.nt;omega)).mono (by
   rintro e w' ⟨o,he,hf⟩;obtain⟨P,hP⟩:=hf.at_;obtain⟨Ao,co,rfl⟩:=hP.row;exact⟨Ao,co,P,he,hP,hf.below⟩))
  go_upto_region 4 with fail
  go_cut [4] (fun p wx=>∃F:Fs,p=.pointer (some ⟨F.q,0,none⟩)∧Hid (FStat w wx F g 0 (List.replicate (2*(g.top+1)) 0)∧Blk wx w.heap.size 32 #[.slice AT g.nt cT,.slice AN g.nn cN,.slice AR g.R.length cR,.int .i64 g.s]∧Blk wx b 276 #[.int .i64 g.nt,.int .i64 g.top]∧w.heap.size<F.q))
  case first=>
   have k0:=HB.out.1.cell 0;have k1:=HB.out.1.cell 1;simp at k0 k1;have HK:Hid (∀y,Below W.heap.size W y→y.cell? ⟨b,0,none⟩=some (.int .i64 g.nt)∧y.cell? ⟨b,1,none⟩=some (.int .i64 g.top)):=Hd (fun y hy=>⟨(HB.out.1.below hy hbl).cell 0,(HB.out.1.below hy hbl).cell 1⟩);have HBW:Hid (Below W.heap.size W W.drew):=Hd ⟨rfl,rfl,rfl,leR _,fun _ _=>rfl⟩;have hsz:W.drew.heap.size=W.heap.size:=rfl;have hi1:IntKind.i64.wrap ((g.top:Int)+1)=(g.top:Int)+1:=by rw[IntKind.wrap_i64];have:=hfit.nt;have:=hfit.nn;unfold Gz.top;omega
   have hi2:IntKind.i64.wrap ((g.nt:Int)+1)=(g.nt:Int)+1:=by rw[IntKind.wrap_i64];have:=hfit.nt;omega
   go_region_held3 (fun y=>y.cell? ⟨b,0,none⟩=some (.int .i64 g.nt)∧y.cell? ⟨b,1,none⟩=some (.int .i64 g.top))
    (first|exact HK.out _ HBW.out|exact HK.out _ (HBW.out.alloc (by omega) _))
    (first
      | (
         go_at_call 84
         refine(HNW.out _).mono ?_;rintro e w2 ⟨rfl,hs,hb⟩;have HE:=Hd hs;have hel:=hs.words.lt;have hsz2:=hb.size;have HBW2:=Hd (HBW.out.trans (hb.mono HBW.out.size))
         (try (have HA2:=Hd (HA.out.later hb);clear HA;have HA:=HA2;clear HA2))
         (try (have HD2:=Hd (HD.out.later hb);clear HD;have HD:=HD2;clear HD2))
         clear hs hb HBW;have HBW:=HBW2;clear HBW2)
      | (
         go_at_call 196
         refine(HFR.out _).mono ?_;rintro e w2 ⟨Ao,co,P,rfl,hf,hb⟩;have hsz2:=hb.size;have HBW2:=Hd (HBW.out.trans (hb.mono HBW.out.size))
         (try (have HE2:=Hd (HE.out.later hb);clear HE;have HE:=HE2;clear HE2))
         first
           | (have HA2:=Hd (HA.out.later hb);clear HA;have HA:=HA2;clear HA2;have HD:=Hd hf)
           | (have HA:=Hd hf)
         clear hf hb HBW;have HBW:=HBW2;clear HBW2))
   go_wp2_with fail
   go_meet
   have hHB:=HBW.out;have hHS:=hHB.size;refine⟨⟨w2.heap.size,⟨W.heap.size+1,W.heap.size,g.top+1⟩,_,_,_⟩,rfl,Hd ⟨FStat.make (Blk.newAt rfl) (HE.out.later (below_alloc _ _)) rfl (by have:=hfit.nt;have:=hfit.nn;unfold Gz.top;omega) (HA.out.later (below_alloc _ _)) (HD.out.later (below_alloc _ _)) (HB.out.2.1.trans ((hHB.alloc hHS _).mono hWs)) ?_ ?_ ?_ ?_,((HB.out.2.2.2.below hHB (by omega)).alloc _),(HB.out.1.below hHB hbl).alloc _,?_⟩⟩;all_goals (try simp only at hel ⊢)
   all_goals omega
  case rest=>
   obtain⟨F,rfl,HF⟩:=hcut;rename World=>W2
   have HX:Hid (∀y,Chg (XS F) W2 y→(y.cell? ⟨w.heap.size,2,none⟩=some (.slice AR g.R.length cR)∧y.cell? ⟨w.heap.size,3,none⟩=some (.int .i64 g.s))∧y.cell? ⟨b,0,none⟩=some (.int .i64 g.nt)):=Hd (fun y hy=>by have z:=hy.blk HF.out.2.1 (HF.out.1.no HF.out.2.1 (by decide));have z2:=hy.blk HF.out.2.2.1 (HF.out.1.no HF.out.2.2.1 (by decide));exact⟨⟨z.cell 2,z.cell 3⟩,z2.cell 0⟩)
   obtain⟨⟨x2,x3⟩,x4⟩:=HX.out W2 (Chg.refl _ _);have HF0:Hid (FStat w W2 F g 0 (begTo g 0)):=Hd (by rw[begTo_zero];exact HF.out.1);have hPl:=HF.out.1.at_.plen;obtain⟨bg,bc,hg,hcc,hbv,hhv,hbc,hhc⟩:=HF.out.1.at_.open_;have hnt:=hfit.nt;have hnn:=hfit.nn;have htop:g.top=g.nt+g.nn:=rfl;clear HF hbl hWs hbw;go_wp2_with fail
   go_loopw [48] (fun ii wr=>∃j:Nat,j≤g.nt+1∧ii=.int .i64 j∧Hid (FStat w wr F g 0 (begTo g j))∧Hid (Chg (XS F) W2 wr)) (fun ii _=>g.nt+1-(intOf ii).toNat)
   case atStart=>exact⟨0,zeL _,rfl,HF0,Hd (Chg.refl _ _)⟩
   case round=>
    obtain⟨j,hj,rfl,HS,HC⟩:=hrel;by_cases hlt:j<g.nt+1
    · obtain⟨p,hp⟩:∃p,F.P[j]?=some p:=⟨_,eG (by omega)⟩
      have HPT:Hid (Calls Tryz.prog 86 #[.pointer (some ⟨p.h,0,none⟩),.int .i64 j] wr fun e w'=>(∃b,e=.returned (.bool b))∧FStat w w' F g 0 (begTo g (j+1))∧Chg (XS F) W2 w'):=Hd ((HS.out.put hp hlt).mono (by rintro e w' ⟨he,h1,h2⟩;rw[begTo_next (by omega)]at h1;exact⟨he,h1,HC.out.next h2⟩))
      obtain⟨-,-,-,q3,-⟩:=HS.out.at_.cells;rw[hbv]at q3;have q5:=HS.out.at_.begin_ hbv hp (by omega);clear hp;go_wp2_with (go_at_call 86;refine HPT.out.mono ?_;rintro e w' ⟨⟨b',rfl⟩,h1,h2⟩;have H1:=Hd h1;have H2:=Hd h2;clear h1 h2)
      go_roundw
      case rel=>exact⟨j+1,by omega,by go_num,H1,H2⟩
      case measure=>simp[intOf];omega
    · obtain rfl:j=g.nt+1:=by omega
      rw[begTo_all]at HS;obtain⟨E1,C1,hb1,hb2⟩:∃E1 C1,begLoop g f 0 (begStart g)=some (E1,C1)∧(match behLoop g E1 (g.top+1) f (C1.set (g.top+1+g.s) (C1.getD (g.top+1+g.s) 0|||1)) with|none=>none|some C'=>some (E1,C'))=some (E,C):=by
        unfold firstOf at hr;split at hr
        · cases hr
        · rename_i E1 C1 h1
          exact⟨E1,C1,h1,hr⟩
      have HB2:=Hd hb2;have HB1:=Hd hb1;clear hb1 hb2 hr HF0 HTP HCK x4;have HCR:Hid (∀k rl rr,g.R[k]?=some (rl,rr)→∃b0 off A0 c0,AR=some ⟨b0,off,none⟩∧(rl≤g.top∧∀x∈rr,x≤g.top)∧∀y,Below w.heap.size w y→y.cell? ⟨b0,off+k*2,none⟩=some (.int .i64 rl)∧y.cell? ⟨b0,off+k*2+1,none⟩=some (.slice A0 rr.length c0)∧Nums y (.slice A0 rr.length c0) rr):=Hd (fun k rl rr hk=>by obtain⟨b0,off,rv,hA,hlt0,e0,e1,hn⟩:=HC0.out k _ hk;obtain⟨⟨A0,c0,hv,-⟩,-,-⟩:=id hn;subst hv;have hm:=mG hk;exact⟨b0,off,A0,c0,hA,⟨(hfit.left _ hm).2,fun x hx=>(hfit.right _ hm x hx).2⟩,fun y hy=>⟨(hy.cell (p:=⟨b0,off+k*2,none⟩) hlt0).trans e0,(hy.cell (p:=⟨b0,off+k*2+1,none⟩) hlt0).trans e1,hn.later hy⟩⟩)
      go_wp2_with fail
      go_loopg [6] f (fun n mo wr=>∃(m:Bool) (E':Nat) (C':List Nat),mo=.bool m∧Hid (FStat w wr F g E' C')∧Hid (Chg (XS F) W2 wr)∧Hid ((m=true→begLoop g n E' C'=some (E1,C1))∧(m=false→E'=E1∧C'=C1)))
      case atStart=>exact⟨true,0,begStart g,rfl,HS,HC,Hd ⟨fun _=>HB1.out,fun h=>by cases h⟩⟩
      case round=>
        obtain⟨m,E',C',rfl,HS',HC',HL⟩:=hrel;rename World=>w5
        obtain⟨⟨x2,x3⟩,-⟩:=HX.out w5 HC'.out;cases m with
        | true=>
          cases gk with
          | zero=>have h0:=HL.out.1 rfl;rw[begLoop]at h0;cases h0
          | succ n=>
            obtain⟨E2,C2,m2,hps,hnx⟩:∃E2 C2 m2,begPass g.R E' C' false=(E2,C2,m2)∧((m2=true→begLoop g n E2 C2=some (E1,C1))∧(m2=false→E2=E1∧C2=C1)):=by
             have h0:=HL.out.1 rfl;rw[begLoop]at h0;generalize begPass g.R E' C' false=R at *;obtain⟨E2,C2,m2⟩:=R;refine⟨E2,C2,m2,rfl,fun h=>?_,fun h=>?_⟩
             ·subst h;exact h0
             ·subst h
              simp only at h0;cases h0
              exact⟨rfl,rfl⟩
            have HPS:=Hd hps;have HNX:=Hd hnx;clear hps hnx HL;go_wp2_with fail
            go_loopw [6,65] (fun mo ii wr=>∃(k:Nat) (m:Bool) (E3:Nat) (C3:List Nat),k≤g.R.length∧ii=.int .i64 k∧mo=.bool m∧Hid (FStat w wr F g E3 C3)∧Hid (Chg (XS F) W2 wr)∧Hid (begPass (g.R.drop k) E3 C3 m=(E2,C2,m2))) (fun _ ii _=>g.R.length-(intOf ii).toNat)
            case atStart=>exact⟨0,false,E',C',zeL _,rfl,rfl,HS',HC',HPS⟩
            case round=>
             obtain⟨k,m,E3,C3,hk,rfl,rfl,HS3,HC3,HP3⟩:=hrel;rename World=>w6
             by_cases hlt:k<g.R.length
             ·obtain⟨⟨rl,rr⟩,hr⟩:∃r,g.R[k]?=some r:=⟨_,eG hlt⟩
              obtain⟨b0,off,A0,c0,rfl,⟨hrl,hrr⟩,hcell⟩:=HCR.out k rl rr hr;obtain⟨e0,e1,hnum⟩:=hcell w6 HS3.out.below;have HNM:Hid (∀y,Below w.heap.size w y→Nums y (.slice A0 rr.length c0) rr):=Hd (fun y hy=>(hcell y hy).2.2);have HRR:=Hd hrr;have hdrop:=drop_more hr;rw[hdrop]at HP3;obtain⟨p,hp⟩:∃p,F.P[rl]?=some p:=⟨_,eG (by omega)⟩
              have HPX:=Hd hp;obtain⟨C4,m4,all4,hl4⟩:∃C4 m4 all4,lineB E3 rl rr C3 false=(C4,m4,all4):=⟨_,_,_,rfl⟩
              have HP4:Hid (begPass (g.R.drop (k+1)) (if all4 then E3|||2 ^ rl else E3) C4 (m||((all4&&!E3.testBit rl)||m4))=(E2,C2,m2)):=Hd (by have:=HP3.out;rw[begPass]at this;simp only[hl4]at this;exact this);have HBX:=Hd (Blk.new w6 65 #[.int .i64 rl,.slice A0 rr.length c0]);have HS4:=Hd (HS3.out.later (below_alloc w6 (.cells #[.int .i64 rl,.slice A0 rr.length c0] 65)));have HC4:=Hd (HC3.out.alloc (.cells #[.int .i64 rl,.slice A0 rr.length c0] 65));clear hcell hnum hrr hr hdrop hp HP3 HS3 HC3;go_upto_region 16 with fail
              generalize w6.alloc (.cells #[.int .i64 rl,.slice A0 rr.length c0] 65)=W6 at *;generalize w6.heap.size=rb at *;have HSX:Hid (∀y,Chg (XS F) W6 y→y.cell? ⟨F.q,3,none⟩=some (.slice (some ⟨bg,0,none⟩) (g.top+1) bc)∧y.cell? ⟨bg,rl,none⟩=some (.pointer (some ⟨p.h,0,none⟩))∧y.cell? ⟨rb,0,none⟩=some (.int .i64 rl)∧y.cell? ⟨rb,1,none⟩=some (.slice A0 rr.length c0)):=Hd (fun y hy=>by obtain⟨-,-,-,q3,-⟩:=HS4.out.at_.cells;rw[hbv]at q3;have q5:=HS4.out.at_.begin_ hbv HPX.out hrl;have hbx:=hy.blk HBX.out (HS4.out.no HBX.out (by decide));exact⟨HS4.out.cell hy (block_of_cell q3) q3 (fun z e=>by cases e),HS4.out.cell hy (block_of_cell q5) q5 (fun z e=>by cases e),hbx.cell 0,hbx.cell 1⟩)
              obtain⟨s0,s1,s2,s3⟩:=HSX.out W6 (Chg.refl _ _);have HLY:Hid (Calls Tryz.prog 197 #[.pointer (some ⟨F.q,0,none⟩),.pointer (some ⟨p.h,0,none⟩),.slice A0 rr.length c0] W6.drew fun e w'=>e=.returned (.tuple #[.bool m4,.bool all4])∧FStat w w' F g E3 C4∧Chg (XS F) W6 w'):=Hd (by
               have hdr:Below W6.heap.size W6 W6.drew:=⟨rfl,rfl,rfl,leR _,fun _ _=>rfl⟩
               have hst:=HS4.out.later hdr;have hcl:=hst.line HPX.out (HNM.out _ hst.below) HRR.out;rw[hl4]at hcl;refine hcl.mono ?_;rintro e w' ⟨he,h1,h2⟩;exact⟨he,h1,(Chg.of_below hdr).next h2⟩)
              generalize htp:g.top+1=tp at *;have HTQ:=Hd htp;have i2:(rl:Int)<(tp:Int):=by omega
              have i1:(0:Int)≤(rl:Int):=by omega
              clear htp hl4
              go_region_held3 (fun y=>y.cell? ⟨F.q,3,none⟩=some (.slice (some ⟨bg,0,none⟩) tp bc)∧y.cell? ⟨bg,rl,none⟩=some (.pointer (some ⟨p.h,0,none⟩))∧y.cell? ⟨rb,0,none⟩=some (.int .i64 rl)∧y.cell? ⟨rb,1,none⟩=some (.slice A0 rr.length c0))
               (first|exact HSX.out _ ⟨rfl,rfl,rfl,leR _,fun _ _ _=>rfl⟩|exact HSX.out _ HC7.out)
               (first|(go_at_call 197;refine HLY.out.mono ?_;rintro e w7 ⟨rfl,hs7,hc7⟩;have HS7:=Hd hs7;have HC7:=Hd hc7;clear hs7 hc7))
              clear s0 s1 s2 s3 i1 i2 HLY;go_upto_region 17 with fail
              have HD7:Hid (Below w7.heap.size w7 w7.drew):=Hd ⟨rfl,rfl,rfl,leR _,fun _ _=>rfl⟩;obtain⟨-,-,q2,-,-⟩:=HS7.out.at_.cells;obtain⟨-,-,q4,-⟩:=HSX.out w7 HC7.out;have HPE:Hid (Calls Tryz.prog 86 #[.pointer (some ⟨F.e.h,0,none⟩),.int .i64 rl] w7.drew fun e w'=>e=.returned (.bool (!E3.testBit rl))∧FStat w w' F g (E3|||2 ^ rl) C4∧Chg (XS F) W2 w'):=Hd (by refine((HS7.out.later HD7.out).putE hrl).mono ?_;rintro e w' ⟨he,h1,h2⟩;exact⟨he,h1,((HC4.out.next HC7.out).next (Chg.of_below HD7.out)).next h2⟩)
              have HF7:Hid (∀n,FStat w (w7.drewN n) F g E3 C4∧Chg (XS F) W2 (w7.drewN n)):=Hd (fun n=>by
               have hdn:Below w7.heap.size w7 (w7.drewN n):=⟨rfl,rfl,rfl,leR _,fun _ _=>rfl⟩
               exact⟨HS7.out.later hdn,(HC4.out.next HC7.out).next (Chg.of_below hdn)⟩)
              cases all4 with
              | false=>
               go_quiet (fail)
               obtain⟨H1,H2⟩:=HF7.out nq;have H1:=Hd H1;have H2:=Hd H2;cases m
               ·go_wp2_with fail
                refine⟨?_,?_⟩
                ·repeat apply Exists.intro
                 refine⟨?_,rfl⟩;exact⟨k+1,_,E3,C4,by omega,by go_num,rfl,H1,H2,HP4⟩
                ·simp[intOf];omega
               ·go_wp2_with fail
                refine⟨?_,?_⟩
                ·repeat apply Exists.intro
                 refine⟨?_,rfl⟩;exact⟨k+1,_,E3,C4,by omega,by go_num,rfl,H1,H2,HP4⟩
                ·simp[intOf];omega
              | true=>
               generalize E3.testBit rl=tb at *;cases tb
               all_goals first
                | (go_region_law (first|(go_simp;go_at_call 86;refine HPE.out.mono ?_;rintro e w8 ⟨rfl,h1,h2⟩;have H1:=Hd h1;have H2:=Hd h2;clear h1 h2)))
                | fail
               all_goals cases m
               all_goals cases m4
               all_goals go_wp2_with fail
               all_goals refine⟨?_,?_⟩
               all_goals first
                | (simp[intOf];omega;done)
                | exact⟨_,_,_,_,_,⟨k+1,by omega,rfl,.inl ⟨rfl,_,_,H1,HP4⟩⟩,rfl,rfl,rfl,rfl,by go_num⟩
                | exact⟨_,_,_,_,_,⟨k+1,by omega,rfl,.inr ⟨rfl,_,_,H1,HP4⟩⟩,rfl,rfl,rfl,rfl,by go_num⟩
                | trace_state
             ·obtain rfl:k=g.R.length:=by omega
              have e:=HP3.out;rw[List.drop_length,begPass]at e;cases e
              go_wp2_with fail
              go_roundg n
              case measure=>omega
              case rel=>exact⟨m2,E2,C2,rfl,HS3,HC3,HNX⟩
        | false=>
          obtain⟨rfl,rfl⟩:=HL.out.2 rfl;obtain⟨p,hp⟩:∃p,F.P[g.top+1+g.s]?=some p:=⟨_,eG (by have:=hfit.start;omega)⟩
          have HPX:=Hd hp;obtain⟨hE,hBL⟩:E'=E∧behLoop g E' (g.top+1) f (C'.set (g.top+1+g.s) (C'.getD (g.top+1+g.s) 0|||1))=some C:=by
            have h0:=HB2.out;split at h0
            ·cases h0
            ·rename_i X hX
             cases h0
             exact⟨rfl,hX⟩
          subst hE;have HBL:=Hd hBL;have hst:=hfit.start;clear hp hBL HB2 HB1 HL;go_upto_region 20 with fail
          have HSX:Hid (∀y,Chg (XS F) w5 y→y.cell? ⟨F.q,4,none⟩=some (.slice (some ⟨hg,0,none⟩) (g.top+1) hcc)∧y.cell? ⟨hg,g.s,none⟩=some (.pointer (some ⟨p.h,0,none⟩))∧y.cell? ⟨w.heap.size,3,none⟩=some (.int .i64 g.s)):=Hd (fun y hy=>by obtain⟨-,-,-,-,q4⟩:=HS'.out.at_.cells;rw[hhv]at q4;have q5:=HS'.out.at_.behind_ hhv HPX.out hst.2;exact⟨HS'.out.cell hy (block_of_cell q4) q4 (fun z e=>by cases e),HS'.out.cell hy (block_of_cell q5) q5 (fun z e=>by cases e),(HX.out y (HC'.out.next hy)).1.2⟩)
          obtain⟨s0,s1,s2⟩:=HSX.out w5 (Chg.refl _ _);have HPY:Hid (Calls Tryz.prog 86 #[.pointer (some ⟨p.h,0,none⟩),.int .i64 0] w5.drew fun e w'=>(∃b,e=.returned (.bool b))∧FStat w w' F g E' (C'.set (g.top+1+g.s) (C'.getD (g.top+1+g.s) 0|||1))∧Chg (XS F) w5 w'):=Hd (by
            have hdr:Below w5.heap.size w5 w5.drew:=⟨rfl,rfl,rfl,leR _,fun _ _=>rfl⟩
            have hcl:=(HS'.out.later hdr).put (x:=0) HPX.out (by omega);refine hcl.mono ?_;rintro e w' ⟨he,h1,h2⟩;exact⟨he,h1,(Chg.of_below hdr).next h2⟩)
          have HBQ:Hid (behLoop g E' (g.top+1) f (C'.set (g.top+1+g.s) (C'.getD (g.top+1+g.s) 0|||1))=some C):=HBL;generalize C'.set (g.top+1+g.s) (C'.getD (g.top+1+g.s) 0|||1)=Cs at *;generalize htp:g.top+1=tp at *;have HTQ:=Hd htp;have i2:(g.s:Int)<(tp:Int):=by omega
          have i1:(0:Int)≤(g.s:Int):=by omega
          clear HBL
          go_region_held3 (fun y=>y.cell? ⟨F.q,4,none⟩=some (.slice (some ⟨hg,0,none⟩) tp hcc)∧y.cell? ⟨hg,g.s,none⟩=some (.pointer (some ⟨p.h,0,none⟩))∧y.cell? ⟨w.heap.size,3,none⟩=some (.int .i64 g.s))
            (first|exact HSX.out _ ⟨rfl,rfl,rfl,leR _,fun _ _ _=>rfl⟩|exact HSX.out _ HC7.out)
            (first|(go_at_call 86;refine HPY.out.mono ?_;rintro e w7 ⟨⟨b7,rfl⟩,hs7,hc7⟩;have HS7:=Hd hs7;have HC7:=Hd hc7;clear hs7 hc7))
          have HCW:=Hd (HC'.out.next HC7.out);obtain⟨⟨x2,x3⟩,-⟩:=HX.out w7 HCW.out;clear s0 s1 s2 i1 i2 HPY HSX;go_wp2_with fail
          go_loopg [11] f (fun n mo wr=>∃(m:Bool) (C3:List Nat),mo=.bool m∧Hid (FStat w wr F g E' C3)∧Hid (Chg (XS F) W2 wr)∧Hid ((m=true→behLoop g E' tp n C3=some C)∧(m=false→C3=C)))
          case atStart=>exact⟨true,Cs,rfl,HS7,HCW,Hd ⟨fun _=>HBQ.out,fun h=>by cases h⟩⟩
          case round=>
            obtain⟨m,C3,rfl,HS3,HC3,HL3⟩:=hrel;rename World=>w9
            obtain⟨⟨x2,x3⟩,-⟩:=HX.out w9 HC3.out;cases m with
            | false=>
             obtain rfl:=HL3.out.2 rfl;go_wp2_with fail
             go_ret;exact⟨F,rfl,HS3.out⟩
            | true=>
             cases gk with
             | zero=>have h0:=HL3.out.1 rfl;rw[behLoop]at h0;cases h0
             | succ n=>
              obtain⟨C4,m4,hps,hnx⟩:∃C4 m4,behPass g E' tp g.R C3 false=(C4,m4)∧((m4=true→behLoop g E' tp n C4=some C)∧(m4=false→C4=C)):=by
               have h0:=HL3.out.1 rfl;rw[behLoop]at h0;generalize behPass g E' tp g.R C3 false=R at *;obtain⟨C4,m4⟩:=R;refine⟨C4,m4,rfl,fun h=>?_,fun h=>?_⟩
               ·subst h;exact h0
               ·subst h
                simp only at h0;cases h0
                rfl
              have HPS:=Hd hps;have HNX:=Hd hnx;clear hps hnx HL3;go_wp2_with fail
              go_loopw [11,115] (fun mo ii wr=>∃(k:Nat) (m:Bool) (C5:List Nat),k≤g.R.length∧ii=.int .i64 k∧mo=.bool m∧Hid (FStat w wr F g E' C5)∧Hid (Chg (XS F) W2 wr)∧Hid (behPass g E' tp (g.R.drop k) C5 m=(C4,m4))) (fun _ ii _=>g.R.length-(intOf ii).toNat)
              case atStart=>exact⟨0,false,C3,zeL _,rfl,rfl,HS3,HC3,HPS⟩
              case round=>
               obtain⟨k,m,C5,hk,rfl,rfl,HS5,HC5,HP5⟩:=hrel;rename World=>w10
               by_cases hlt:k<g.R.length
               ·obtain⟨⟨rl,rr⟩,hr⟩:∃r,g.R[k]?=some r:=⟨_,eG hlt⟩
                obtain⟨b0,off,A0,c0,rfl,⟨hrl,hrr⟩,hcell⟩:=HCR.out k rl rr hr;obtain⟨e0,e1,hnum⟩:=hcell w10 HS5.out.below;have hdrop:=drop_more hr;rw[hdrop]at HP5;obtain⟨C6,m6,hl6⟩:∃C6 m6,behRule g E' tp rl rr C5 false=(C6,m6):=⟨_,_,rfl⟩
                have HP6:Hid (behPass g E' tp (g.R.drop (k+1)) C6 (m||m6)=(C4,m4)):=Hd (by have:=HP5.out;rw[behPass]at this;simp only[hl6]at this;exact this);have HRY:Hid (Calls Tryz.prog 198 #[.pointer (some ⟨F.q,0,none⟩),.agg #[.int .i64 rl,.slice A0 rr.length c0]] (w10.alloc (.cells #[.int .i64 rl,.slice A0 rr.length c0] 65)) fun e w'=>e=.returned (.bool m6)∧FStat w w' F g E' C6∧Chg (XS F) W2 w'):=Hd (by have hs:=HS5.out.later (below_alloc w10 (.cells #[.int .i64 rl,.slice A0 rr.length c0] 65));have hcl:=hs.rule (left:=rl) ((hcell _ hs.below).2.2) hrr hrl;rw[HTQ.out,hl6]at hcl;refine hcl.mono ?_;rintro e w' ⟨he,h1,h2⟩;exact⟨he,h1,(HC5.out.alloc _).next h2⟩)
                clear hcell hnum hrr hr hdrop HP5 hl6;cases m
                ·go_wp2_with (go_at_call 198;refine HRY.out.mono ?_;rintro e w11 ⟨rfl,h1,h2⟩;have H1:=Hd h1;have H2:=Hd h2;clear h1 h2)
                 refine⟨?_,?_⟩
                 ·exact⟨k+1,_,C6,by omega,by go_num,rfl,H1,H2,HP6⟩
                 ·simp[intOf];omega
                ·go_wp2_with (go_at_call 198;refine HRY.out.mono ?_;rintro e w11 ⟨rfl,h1,h2⟩;have H1:=Hd h1;have H2:=Hd h2;clear h1 h2)
                 refine⟨?_,?_⟩
                 ·exact⟨k+1,_,C6,by omega,by go_num,rfl,H1,H2,HP6⟩
                 ·simp[intOf];omega
               ·obtain rfl:k=g.R.length:=by omega
                have e:=HP5.out;rw[List.drop_length,behPass]at e;cases e
                go_wp2_with fail
                go_roundg n
                case measure=>omega
                case rel=>exact⟨m4,C4,rfl,HS5,HC5,HNX⟩
end Go.Proofs.YthaacmablcpdfaaGreatDoor
namespace Go.Proofs.YthaacmablcpdfaaGreatDoor
open Go.RowKit Go.Maps
set_option linter.unusedVariables false
def Nv(s:List UInt8):Value:=.string (str s)
structure GNm where
 v:Value
 l:List Nme
def Places(D:DataW Unit)(L:List Nme):Prop:=∀s,D.atKey (klR s) (.lit (.int .i64 0))=.lit (.int .i64 (if s∈L then L.idxOf s+1 else 0:Nat))
theorem Places.start:Places (.map []) []:=fun s=>rfl
theorem Places.next{D:DataW Unit}{L:List Nme}(h:Places D L)(ht:Maps.Tidy D){s:Nme}(hs:s ∉ L):Places (D.put (klR s) (.lit (.int .i64 (L.length+1:Nat)))) (L++[s]):=by
 intro u;by_cases e:u=s
 ·subst e
  rw[Maps.atKey_put_same ht.isMap (key_litR _),if_pos (by simp)];rw[List.idxOf_append,if_neg hs];simp
 ·rw[Maps.atKey_put_other (fun hh=>e (klR_inj hh)),h u]
  by_cases hu:u∈L
  ·rw[if_pos hu,if_pos (by simp[hu]),List.idxOf_append,if_pos hu]
  ·rw[if_neg hu,if_neg (by simp[hu,e])]
structure BAt(w0 w:World)(bb tm nm rb:Nat)(tv nv gv:Value)(b:Bd)(gs:List GNm)(DT DN:DataW Unit):Prop where
 below:Below w0.heap.size w0 w
 blk:Blk w bb 144 #[.pointer (some ⟨rb,0,none⟩),.map (some tm),.map (some nm),tv,nv,.slice none 0 0,.int .i64 0,gv]
 ft:w.ownsRow w0.heap.size 9 1 tv b.T.length (b.T.map Nv)
 fn:w.ownsRow w0.heap.size 9 1 nv b.N.length (b.N.map Nv)
 fg:w.ownsRow w0.heap.size 30 1 gv gs.length (gs.map GNm.v)
 names:gs.map GNm.l=b.R
 rows:∀q∈gs,w.ownsRow w0.heap.size 9 1 q.v q.l.length (q.l.map Nv)
 tn:∀k,tv.ownBlock=some k→¬nv.ownBlock=some k
 tr:∀q∈gs,∀k,tv.ownBlock=some k→¬q.v.ownBlock=some k
 nr:∀q∈gs,∀k,nv.ownBlock=some k→¬q.v.ownBlock=some k
 mt:w.ownsMap Tryz.prog 9 (plainElem Tryz.prog 3) tm b.T.length DT
 mn:w.ownsMap Tryz.prog 9 (plainElem Tryz.prog 3) nm b.N.length DN
 pt:Places DT b.T
 pn:Places DN b.N
 b0:w0.heap.size≤bb∧w0.heap.size≤tm∧w0.heap.size≤nm
 b1:tm≠nm
 lt:b.T.length≤120
 ln:b.N.length≤120
 lr:b.R.length≤300
theorem places_look{w:World}{mb n:Nat}{D:DataW Unit}{L:List Nme}(h:w.ownsMap Tryz.prog 9 (plainElem Tryz.prog 3) mb n D)(hL:Places D L){s:List UInt8}(hs:s.length≤8192):(Instr.lookup 137 (.map (some mb)) (.string (str s)) false).run Tryz.prog w=.ok (.int .i64 (if s∈L then L.idxOf s+1 else 0:Nat)) w:=by have hk:=WideMaps.keyOf_string_mk Tryz.underlying9 (s:=str s) (by rw[str_size];unfold maxLen;omega);obtain⟨c,h1,h2,_⟩:=h.lookup_int lawStrR Tryz.underlying137 Tryz.underlying3 (zeroIntR w) hk;rw[h1];have h3:=hL s;have h2':D.atKey (klR s) (.lit (.int .i64 0))=.lit (.int .i64 c):=h2;rw[h3]at h2';simp only[DataW.lit.injEq,Lit.int.injEq,true_and]at h2';rw[←h2']
theorem places_put{w:World}{mb n:Nat}{D:DataW Unit}(h:w.ownsMap Tryz.prog 9 (plainElem Tryz.prog 3) mb n D)(hn:n≤100000){s:List UInt8}(hs:s.length≤8192){c:Nat}(hc:c≤100000) :
  ∃w',(Instr.mapUpdate 137 (.map (some mb)) (.string (str s)) (.int .i64 (c:Int))).run Tryz.prog w=.ok () w'∧w'.ownsMap Tryz.prog 9 (plainElem Tryz.prog 3) mb (n+1) (D.put (klR s) (.lit (.int .i64 (c:Int))))∧w.grownBy w' (some mb):=by
 have hk:=WideMaps.keyOf_string_mk Tryz.underlying9 (s:=str s) (by rw[str_size];unfold maxLen;omega);exact h.update lawStrR Tryz.underlying137 (by unfold maxLen;omega) hk (plainElem_int Tryz.underlying3 (WalkArith.wf_i64 (by omega)))
theorem map_apart{w:World}{mb n n2 B:Nat}{D:DataW Unit}{e:TypeId}{s:Nat}{v:Value}{xs:List Value}(h:w.ownsMap Tryz.prog 9 (plainElem Tryz.prog 3) mb n D)(hr:w.ownsRow B e s v n2 xs):¬v.ownBlock=some mb:=by
 intro hg;obtain⟨es,clock,hb,_⟩:=h;rcases own_form hr with⟨rfl,_⟩|⟨b,c,rfl,_,_,_,_,cur,hcur⟩
 ·cases hg
 ·cases hg
  unfold Blk at hcur;rw[hb]at hcur;cases hcur
theorem map_blk{w:World}{mb n g:Nat}{D:DataW Unit}{e:TypeId}{cs:Array Value}(h:w.ownsMap Tryz.prog 9 (plainElem Tryz.prog 3) mb n D)(hr:Blk w g e cs):mb≠g:=by rintro rfl;obtain⟨es,clock,hb,_⟩:=h;unfold Blk at hr;rw[hb]at hr;cases hr
theorem row_blk{w:World}{g B n:Nat}{e e2:TypeId}{s:Nat}{cs:Array Value}{v:Value}{xs:List Value}(hr:w.ownsRow B e s v n xs)(h:Blk w g e2 cs)(he:e≠e2):¬v.ownBlock=some g:=by
 intro hg;rcases own_form hr with⟨rfl,_⟩|⟨b,c,rfl,_,_,_,_,cur,hcur⟩
 ·cases hg
 ·cases hg
  exact Blk.ne_ (t:=e) hcur h he rfl
theorem BAt.chg{X:Nat→Prop}{w0 w w':World}{bb tm nm rb:Nat}{tv nv gv:Value}{b:Bd}{gs:List GNm}{DT DN:DataW Unit}(h:BAt w0 w bb tm nm rb tv nv gv b gs DT DN)(hc:Chg X w w')(hx:∀k,k<w.heap.size→¬X k):BAt w0 w' bb tm nm rb tv nv gv b gs DT DN where
 below:=h.below.trans (hc.below h.below.size (fun k hk=>hx k (ltL hk h.below.size)))
 blk:=hc.blk h.blk (hx _ h.blk.lt)
 ft:=hc.own h.ft (fun g hg=>hx g (own_ge h.ft g hg).2)
 fn:=hc.own h.fn (fun g hg=>hx g (own_ge h.fn g hg).2)
 fg:=hc.own h.fg (fun g hg=>hx g (own_ge h.fg g hg).2)
 names:=h.names
 rows q hq:=hc.own (h.rows q hq) (fun g hg=>hx g (own_ge (h.rows q hq) g hg).2)
 tn:=h.tn
 tr:=h.tr
 nr:=h.nr
 mt:=map_chg h.mt hc (hx _ (by obtain⟨es,c,hb,_⟩:=h.mt;exact(aG.1 hb).1))
 mn:=map_chg h.mn hc (hx _ (by obtain⟨es,c,hb,_⟩:=h.mn;exact(aG.1 hb).1))
 pt:=h.pt
 pn:=h.pn
 b0:=h.b0
 b1:=h.b1
 lt:=h.lt
 ln:=h.ln
 lr:=h.lr
theorem ElStrR:El Tryz.prog 30 9 1 16:=El.of (z:=.string ⟨#[]⟩) Tryz.underlying30 (by kernel_rfl) rfl (by decide)
theorem src_str(y:World)(s:ByteArray):SrcOK (y.alloc (.cells #[.string s] 9)) (.slice (some ⟨y.heap.size,0,none⟩) 1 1) 1 1 [.string s]:=
 SrcOK.blk (c:=1) (Blk.new y 9 #[.string s]) rfl (by simp[Value.oneCell'])
theorem map_lt9{w:World}{mb n:Nat}{D:DataW Unit}(h:w.ownsMap Tryz.prog 9 (plainElem Tryz.prog 3) mb n D):mb<w.heap.size:=by obtain⟨es,c,hb,_⟩:=h;exact(aG.1 hb).1
def Mine(bb tm nm:Nat)(tv nv:Value)(k:Nat):Prop:=k=bb∨k=tm∨k=nm∨tv.ownBlock=some k∨nv.ownBlock=some k
def Newer(w:World)(v v':Value):Prop:=∀k,v'.ownBlock=some k→v.ownBlock=some k∨w.heap.size≤k
theorem Newer.refl(w:World)(v:Value):Newer w v v:=fun k h=>.inl h
theorem term_rel{w0 w w2 w4:World}{o:Obj}{bb tm nm rb:Nat}{tv nv gv:Value}{b:Bd}{gs:List GNm}{DT DN:DataW Unit}{s:Nme}{A2:Option Addr}{c2:Nat}
  (h:BAt w0 w bb tm nm rb tv nv gv b gs DT DN) (hs:s ∉ b.T) (hlt:b.T.length<120)
  (ho:w2.ownsRow w0.heap.size 9 1 (.slice A2 (b.T.length+1) c2) (b.T.length+1) (b.T.map Nv++[Nv s]))
  (hg:(w.alloc o).grownBy w2 tv.ownBlock∧((Value.slice A2 (b.T.length+1) c2).ownBlock=tv.ownBlock∨(Value.slice A2 (b.T.length+1) c2).ownBlock=some (w.alloc o).heap.size))
  (hm:w4.ownsMap Tryz.prog 9 (plainElem Tryz.prog 3) tm (b.T.length+1) (DT.put (klR s) (.lit (.int .i64 (b.T.length+1:Nat)))))
  (hg4:(w2.setCell ⟨bb,3,none⟩ (.slice A2 (b.T.length+1) c2)).drew.grownBy w4 (some tm)) :
  BAt w0 w4 bb tm nm rb (.slice A2 (b.T.length+1) c2) nv gv {b with T:=b.T++[s]} gs (DT.put (klR s) (.lit (.int .i64 (b.T.length+1:Nat)))) DN∧Chg (Mine bb tm nm tv nv) w w4∧Newer w tv (.slice A2 (b.T.length+1) c2):=by
 have hX:Chg (fun k=>tv.ownBlock=some k) w w2:=((Chg.refl _ w).alloc o).next (.of_grown hg.1);have hXY:Chg (fun k=>tv.ownBlock=some k∨k=bb) w (w2.setCell ⟨bb,3,none⟩ (.slice A2 (b.T.length+1) c2)).drew:=((hX.mono (fun i hi=>.inl hi)).set (p:=⟨bb,3,none⟩) (.inr (.inr rfl)) _).drew;have h4:=Chg.of_map hg4;have hY:Chg (fun k=>(tv.ownBlock=some k∨k=bb)∨k=tm) w w4:=(hXY.mono (fun i hi=>.inl hi)).next (h4.mono (fun i hi=>.inr hi));have hbb:=h.blk.lt;have htm:=map_lt9 h.mt;have e1:¬tv.ownBlock=some bb:=row_blk h.ft h.blk (by decide);have e2:¬tv.ownBlock=some tm:=map_apart h.mt h.ft;have e3:tm≠bb:=map_blk h.mt h.blk
 have e4:nm≠bb:=map_blk h.mn h.blk;have e5:¬tv.ownBlock=some nm:=map_apart h.mn h.ft;have hnew:∀k,(Value.slice A2 (b.T.length+1) c2).ownBlock=some k→k≠bb∧k≠tm:=by
  intro k hk;rcases hg.2 with e|e
  ·rw[e]at hk
   exact⟨by rintro rfl;exact e1 hk,by rintro rfl;exact e2 hk⟩
  ·rw[e]at hk
   cases hk
   exact⟨by simp;omega,by simp;omega⟩
 have hrow:∀{e:TypeId} {sz n:Nat} {v:Value} {xs:List Value},w.ownsRow w0.heap.size e sz v n xs→e≠144→(∀k,tv.ownBlock=some k→¬v.ownBlock=some k)→w4.ownsRow w0.heap.size e sz v n xs:=by
  intro e sz n v xs hr he hd;refine hY.own hr ?_;rintro k hk ((hh|rfl)|rfl)
  ·exact hd k hh hk
  ·exact row_blk hr h.blk he hk
  ·exact map_apart h.mt hr hk
 have happ:∀{v:Value} {B n sz:Nat} {e:TypeId} {xs:List Value},w.ownsRow B e sz v n xs→(∀k,tv.ownBlock=some k→¬v.ownBlock=some k)→∀k,(Value.slice A2 (b.T.length+1) c2).ownBlock=some k→¬v.ownBlock=some k:=by
  intro v B n sz e xs hr hd k hk hv;rcases hg.2 with e|e
  ·rw[e]at hk;exact hd k hk hv
  ·rw[e]at hk
   cases hk
   have:=(own_ge hr _ hv).2;simp at this;omega
 refine⟨?_,hY.mono ?_,?_⟩
 rotate_left
 ·rintro k ((hh|rfl)|rfl)
  ·exact .inr (.inr (.inr (.inl hh)))
  ·exact .inl rfl
  ·exact .inr (.inl rfl)
 ·intro k hk
  rcases hg.2 with e|e
  ·exact .inl (e▸hk)
  ·rw[e]at hk
   cases hk
   exact .inr (by simp)
 refine⟨?_,?_,?_,hrow h.fn (by decide) h.tn,hrow h.fg (by decide) (fun k hk hk2=>own_apart h.ft h.fg (by decide) k hk hk2),h.names,fun q hq=>hrow (h.rows q hq) (by decide) (h.tr q hq),happ h.fn h.tn,fun q hq=>happ (h.rows q hq) (h.tr q hq),h.nr,by simpa using hm,?_,?_,h.pn,h.b0,h.b1,by simp;omega,h.ln,h.lr⟩
 ·refine h.below.trans (hY.below h.below.size ?_)
  rintro k hk ((hh|rfl)|rfl)
  ·have:=(own_ge h.ft k hh).1;omega
  ·have:=h.b0.1;omega
  ·have:=h.b0.2.1;omega
 ·refine h4.blk (cs:=#[.pointer (some ⟨rb,0,none⟩),.map (some tm),.map (some nm),.slice A2 (b.T.length+1) c2,nv,.slice none 0 0,.int .i64 0,gv]) ?_ (fun e=>e3 e.symm)
  have:=(hX.blk h.blk e1).set_ 3 (.slice A2 (b.T.length+1) c2);exact(Chg.refl (fun _=>False) _).drew.blk (by simpa using this) id
 ·rw[mpA,show (b.T++[s]).length=b.T.length+1 by simp]
  exact h4.own ((Chg.refl (fun _=>False) _).drew.own (own_far (by simpa using ho) (fun e=>(hnew _ e).1 rfl) _) (fun _ _=>id)) (fun k hk e=>(hnew k hk).2 e)
 ·refine map_chg h.mn hY ?_
  rintro((hh|hh)|hh)
  ·exact e5 hh
  ·exact e4 hh
  ·exact h.b1 hh.symm
 ·exact h.pt.next (h.mt.tidy lawStrR) hs
theorem BAt.cells{w0 w:World}{bb tm nm rb:Nat}{tv nv gv:Value}{b:Bd}{gs:List GNm}{DT DN:DataW Unit}(h:BAt w0 w bb tm nm rb tv nv gv b gs DT DN) :
  w.cell? ⟨bb,0,none⟩=some (.pointer (some ⟨rb,0,none⟩))∧w.cell? ⟨bb,1,none⟩=some (.map (some tm))∧w.cell? ⟨bb,2,none⟩=some (.map (some nm))∧w.cell? ⟨bb,3,none⟩=some tv∧w.cell? ⟨bb,4,none⟩=some nv∧w.cell? ⟨bb,7,none⟩=some gv∧bb<w.heap.size:=
 ⟨h.blk.cell 0,h.blk.cell 1,h.blk.cell 2,h.blk.cell 3,h.blk.cell 4,h.blk.cell 7,h.blk.lt⟩
theorem BAt.drew{w0 w:World}{bb tm nm rb:Nat}{tv nv gv:Value}{b:Bd}{gs:List GNm}{DT DN:DataW Unit}(h:BAt w0 w bb tm nm rb tv nv gv b gs DT DN):BAt w0 w.drew bb tm nm rb tv nv gv b gs DT DN:=h.chg ((Chg.refl (fun _=>False) w).drew) (fun _ _=>id)
theorem BAt.alloc{w0 w:World}{bb tm nm rb:Nat}{tv nv gv:Value}{b:Bd}{gs:List GNm}{DT DN:DataW Unit}(h:BAt w0 w bb tm nm rb tv nv gv b gs DT DN)(o:Obj):BAt w0 (w.alloc o) bb tm nm rb tv nv gv b gs DT DN:=h.chg ((Chg.refl (fun _=>False) w).alloc o) (fun _ _=>id)
def BEnd(w0 w:World)(bb tm nm rb:Nat)(tv nv gv:Value)(gs:List GNm)(r:Except Flt Bd)(e:Ending)(w':World):Prop:=
 Below w0.heap.size w0 w'∧match r with
 | .ok b=>e=.returned (.tuple #[])∧∃tv' nv' DT DN,BAt w0 w' bb tm nm rb tv' nv' gv b gs DT DN∧Chg (Mine bb tm nm tv nv) w w'∧Newer w tv tv'∧Newer w nv nv'
 | .error f=>Gives f e
def termB(b:Bd)(t:Tk):Except Flt Bd:=if 120≤b.T.length then .error (7,t.p) else .ok {b with T:=b.T++[t.s]}
set_option maxRecDepth 100000 in
set_option maxHeartbeats 3200000 in
theorem bterm_any{w0 w:World}{bb tm nm rb:Nat}{tv nv gv:Value}{b:Bd}{gs:List GNm}{DT DN:DataW Unit}(h:BAt w0 w bb tm nm rb tv nv gv b gs DT DN)(t:Tk)(ht:t.s.length≤8192)(hs:t.s ∉ b.T) :
  Calls Tryz.prog 207 #[.pointer (some ⟨bb,0,none⟩),.agg #[.int .i64 t.k,.string (str t.s),.int .i64 t.p]] w (BEnd w0 w bb tm nm rb tv nv gv gs (termB b t)):=by
 obtain⟨A,c,rfl⟩:=own_shape h.ft;have HA:=Hd (h.alloc (.cells #[.int .i64 t.k,.string (str t.s),.int .i64 t.p] 201));obtain⟨c0,c1,c2,c3,c4,c7,hbb⟩:=h.cells;have hw0:=h.below.size;have HS:=Hd hs;have HT:=Hd ht;have hlt:=h.lt;by_cases hm:120≤b.T.length
 ·have q1:(120:Int)≤(b.T.length:Int):=by omega
  have HE:Hid (termB b t=.error (7,t.p)):=Hd (by simp[termB,hm]);clear h hs ht hm;generalize b.T.length=n at *;go_enter Tryz.func207,Tryz.ntmps207
  go_wp2_with (go_at_call 173;refine(fail_any _ _ _).mono ?_;rintro e w' ⟨rfl,hw'⟩;subst hw')
  refine⟨rfl,HA.out.below,?_⟩;rw[HE.out];exact Gives.of rfl rfl
 ·have q1:¬(120:Int)≤(b.T.length:Int):=by omega
  have hm2:b.T.length<120:=by omega
  have HE:Hid (termB b t=.ok {b with T:=b.T++[t.s]}):=Hd (by simp[termB,hm]);clear h hs ht hm;go_enter Tryz.func207,Tryz.ntmps207
  go_wp2;have HXB:=Hd (Blk.new w 201 #[.int .i64 t.k,.string (str t.s),.int .i64 t.p]);have hw1:w.heap.size<(w.alloc (.cells #[.int .i64 t.k,.string (str t.s),.int .i64 t.p] 201)).heap.size:=by simp
  have HCW:=Hd (((Chg.refl (Mine bb tm nm (.slice A b.T.length c) nv) w).alloc (.cells #[.int .i64 t.k,.string (str t.s),.int .i64 t.p] 201)).drew);have HNW:Hid (∀v',Newer ((w.alloc (.cells #[.int .i64 t.k,.string (str t.s),.int .i64 t.p] 201)).drew) (.slice A b.T.length c) v'→Newer w (.slice A b.T.length c) v'):=Hd (fun v' h k hk=>(h k hk).imp id (fun h=>leT (by simp) h));clear c0 c1 c2 c3 c4 c7 hbb hw0;generalize (w.alloc (.cells #[.int .i64 t.k,.string (str t.s),.int .i64 t.p] 201))=w1 at *;generalize w.heap.size=xb at *;obtain⟨c0,c1,c2,c3,c4,c7,hbb⟩:=HA.out.cells;have x1:=HXB.out.cell 1
  simp at x1;have hw0:=HA.out.below.size;have HAD:=Hd HA.out.drew;have HXD:=Hd (((Chg.refl (fun _=>False) w1).drew).blk HXB.out id);go_region_law (
   refine step_app ElStrR (.tmp 19) (.tmp 22) ?_ ?_ (base:=w0.heap.size) (n:=b.T.length) (m:=1) (N:=b.T.length+1) (v:=.slice A b.T.length c) (src:=.slice (some ⟨w1.heap.size,0,none⟩) 1 1) (xs:=b.T.map Nv) (news:=[.string (str t.s)]) ?_ ?_ ?_ ?_ ?_ ?_ ?_ ?_ ?_
   ·rfl
   ·rfl
   ·rfl
   ·rfl
   ·exact HAD.out.ft.alloc _
   ·exact src_str w1.drew _
   ·rfl
   ·unfold maxLen;omega
   ·omega
   ·simp;omega
   intro A2 k2 w2 q1 q2 q3;have HQ1:=Hd q1;have HQ3:=Hd (show ((w1.drew.alloc (.cells #[.string (str t.s)] 9)).grownBy w2 (Value.slice A b.T.length c).ownBlock∧_) from q3);have hX:Chg (fun k=>(Value.slice A b.T.length c).ownBlock=some k) w1.drew w2:=((Chg.refl _ w1.drew).alloc (.cells #[.string (str t.s)] 9)).next (.of_grown q3.1);have hb2:=hX.blk HAD.out.blk (row_blk HAD.out.ft HAD.out.blk (by decide));have hx2:=hX.blk HXD.out (row_blk HAD.out.ft HXD.out (by decide));have z3:=hb2.cell 3;have zf:=hb2.frozen 3;simp at z3;have HB2:=Hd hb2;have HX2:=Hd hx2;have HMT2:=Hd (map_chg HAD.out.mt hX (map_apart HAD.out.mt HAD.out.ft))
   clear q1 q2 q3 hX hb2 hx2)
  all_goals go_wp2
  all_goals have hne:xb≠bb:=fun e=>Blk.ne_ (t:=201) HXB.out HA.out.blk (by decide) e
  all_goals have HB3:=Hd ((Chg.refl (fun _=>False) _).drew.blk (HB2.out.set_ 3 (.slice A2 (b.T.length+1) k2)) id)
  all_goals have HX3:=Hd ((Chg.refl (fun _=>False) _).drew.blk (HX2.out.far (p:=⟨bb,3,none⟩) (by simpa using hne) (.slice A2 (b.T.length+1) k2)) id)
  all_goals have HMT3:=Hd (map_chg HMT2.out ((Chg.refl (·=bb) w2).set (p:=⟨bb,3,none⟩) (.inr rfl) (.slice A2 (b.T.length+1) k2)).drew (map_blk HAD.out.mt HAD.out.blk))
  all_goals obtain⟨w4,hput,hm4,hg4⟩:=places_put HMT3.out (by omega) HT.out (c:=b.T.length+1) (by omega)
  all_goals have HF:=Hd (term_rel HAD.out HS.out hm2 HQ1.out HQ3.out hm4 hg4)
  all_goals clear hm4 hg4 c0 c1 c2 c3 c4 c7 x1 z3 zf HQ1 HQ3
  all_goals generalize hw3:World.setCell w2 ⟨bb,3,none⟩ (.slice A2 (b.T.length+1) k2)=w3 at *
  all_goals clear hw3
  all_goals have y1:=HB3.out.cell 1
  all_goals have y3:=HB3.out.cell 3
  all_goals have x3:=HX3.out.cell 1
  all_goals simp at y1 y3 x3
  all_goals have hput2:=hput
  all_goals push_cast at hput2
  all_goals go_region
  all_goals go_end0
  all_goals refine⟨HF.out.1.below,?_⟩
  all_goals rw[HE.out]
  all_goals exact⟨rfl,_,_,_,_,HF.out.1,HCW.out.next HF.out.2.1,HNW.out _ HF.out.2.2,Newer.refl _ _⟩
theorem Rules.later{w w':World}{B rb mb:Nat}{tb:Option Nat}{l:List Tk}{x:Txt}{dv kv sv rv:Value}{rs:List GRu}{D:DataW Unit}(h:Rules w B rb mb tb l x dv kv sv rv rs D)(hb:Below w.heap.size w w'):Rules w' B rb mb tb l x dv kv sv rv rs D:=by have hc:Chg (fun _=>False) w w':=.of_below hb;have hh:=h.heads;exact⟨⟨hh.stand.chg hc id (fun _ _=>id),hc.own hh.decl (fun _ _=>id),hc.own hh.marks (fun _ _=>id),hc.own hh.starts (fun _ _=>id),hh.apart,hh.rbB,hh.tbB,leT hh.bB hc.size,hh.ld,hh.lm,hh.ls⟩,hc.own h.rules (fun _ _=>id),fun r hr=>(h.good r hr).chg hc (fun _ _ _=>id),map_chg h.map hc id,h.lefts,h.mbB,h.mr,h.lr⟩
theorem drew_below(w:World):Below w.heap.size w w.drew:=⟨rfl,rfl,rfl,leR _,fun _ _=>rfl⟩
theorem row_cell{w:World}{B:Nat}{e:TypeId}{s n:Nat}{v:Value}{xs:List Value}(h:w.ownsRow B e s v n xs)(hn:0<n):∃g c,v=.slice (some ⟨g,0,none⟩) n c∧∀j u,xs[j]?=some u→w.cell? ⟨g,j,none⟩=some u:=by
 rcases h.2 with⟨rfl,rfl⟩|⟨g,cap,cur,rfl,_⟩
 ·omega
 ·refine⟨g,cap,rfl,fun j u hu=>?_⟩
  have:=h.cells rfl j u hu;by_cases hj:j=0
  ·subst hj;simpa [Addr.add] using this
  ·simpa [Addr.add,hj] using this
theorem left_count(rs:List GRu)(y:Txt)(h:rs.map GRu.r=y.rules)(s:Nme):leftOf y s=decide ((rs.map fun r=>r.left.s).count s≠0):=by unfold leftOf;rw[←h,List.any_map,Bool.eq_iff_iff,List.any_eq_true,decide_eq_true_eq,←Nat.pos_iff_ne_zero,List.count_pos_iff];simp[GRu.r]
def Unit_(w:World)(r:Except Flt Unit)(e:Ending)(w':World):Prop:=
 Below w.heap.size w w'∧match r with
 | .ok _=>e=.returned (.tuple #[])
 | .error f=>Gives f e
theorem start_any{w:World}{B rb mb bb:Nat}{tb:Option Nat}{l:List Tk}{x:Txt}{dv kv sv rv:Value}{rs:List GRu}{D:DataW Unit}(h:Rules w B rb mb tb l x dv kv sv rv rs D)(hb:w.cell? ⟨bb,0,none⟩=some (.pointer (some ⟨rb,0,none⟩)))(hr:rs.map GRu.r=x.rules){st:Tk}{sr:List Tk}(hs:x.starts=st::sr)(hst:st.s.length≤8192):Calls Tryz.prog 206 #[.pointer (some ⟨bb,0,none⟩)] w (Unit_ w (startT (leftOf x) st)):=by
 obtain⟨_,_,c3,_,c5,_⟩:=h.heads.stand.cells;obtain⟨g,c,rfl,hg⟩:=row_cell h.heads.starts (by rw[hs];simp);have g1:=hg 1 (.string (str st.s)) (by rw[hs];rfl);have g2:=hg 2 (.int .i64 st.p) (by rw[hs];rfl);have hlook:=lefts_look (map_chg h.map ((Chg.refl (fun _=>False) w).drew) id) h.lefts hst;have hn:(0:Int)<(x.starts.length:Int):=by rw[hs,List.length_cons];omega
 have HL:=Hd (left_count rs x hr st.s);clear hg hs h hr;generalize x.starts.length=n at *;generalize (rs.map fun r=>r.left.s).count st.s=n0 at *;by_cases h0:n0=0
 ·have HE:Hid (startT (leftOf x) st=.error (9,st.p)):=Hd (by simp[startT,HL.out,h0])
  have q1:((n0:Int)==0)=true:=by simp[h0]
  clear h0;go_enter Tryz.func206,Tryz.ntmps206
  go_wp2_with fail
  go_region
  go_wp2_with (go_at_call 173;refine(fail_any _ _ _).mono ?_;rintro e w' ⟨rfl,hw'⟩;subst hw')
  refine⟨rfl,drew_below w,?_⟩;rw[HE.out];exact Gives.of rfl rfl
 ·have HE:Hid (startT (leftOf x) st=.ok ()):=Hd (by simp[startT,HL.out,h0])
  have q1:((n0:Int)==0)=false:=by simp;omega
  clear h0;go_enter Tryz.func206,Tryz.ntmps206
  go_wp2_with fail
  go_region
  go_wp2
  go_end0
  refine⟨drew_below w,?_⟩;rw[HE.out]
theorem second_any{w:World}{B rb mb bb:Nat}{tb:Option Nat}{l:List Tk}{x:Txt}{dv kv sv rv:Value}{rs:List GRu}{D:DataW Unit}(h:Rules w B rb mb tb l x dv kv sv rv rs D)(hb:w.cell? ⟨bb,0,none⟩=some (.pointer (some ⟨rb,0,none⟩))):Calls Tryz.prog 172 #[.pointer (some ⟨bb,0,none⟩)] w fun e w'=>e=.returned (.int .i64 (secondL x.marks))∧w'=w:=by
 obtain⟨_,c2,_,_,_,_⟩:=h.heads.stand.cells;by_cases hm:x.marks.length<2
 ·obtain⟨A,c,rfl⟩:=own_shape h.heads.marks
  have HE:Hid (secondL x.marks=8193):=Hd (by
   match hh:x.marks,hm with
   | [],_=>rfl
   | [a],_=>rfl
   | a::b::r,hm=>simp at hm;omega)
  have q1:(x.marks.length:Int)<2:=by omega
  clear h hm;generalize x.marks.length=n at *;go_enter Tryz.func172,Tryz.ntmps172
  go_wp2;go_ret;exact⟨by rw[HE.out];rfl,rfl⟩
 ·obtain⟨g,c,rfl,hg⟩:=row_cell h.heads.marks (by omega)
  obtain⟨a,m,r,hx⟩:∃a m r,x.marks=a::m::r:=by
   match hh:x.marks,hm with
   | [],hm=>simp at hm
   | [a],hm=>simp at hm
   | a::b::r,_=>exact⟨a,b,r,rfl⟩
  have g1:=hg 1 (.int .i64 m) (by rw[hx];rfl);have HE:Hid (secondL x.marks=m):=Hd (by rw[hx];rfl);have q1:¬(x.marks.length:Int)<2:=by omega
  have q2:(1:Int)<(x.marks.length:Int):=by omega
  clear h hm hg hx;generalize x.marks.length=n at *;go_enter Tryz.func172,Tryz.ntmps172
  go_wp2;go_ret;exact⟨by rw[HE.out];rfl,rfl⟩
set_option maxRecDepth 100000 in
set_option maxHeartbeats 3200000 in
theorem symb9_any{w0 w:World}{bb tm nm rb:Nat}{tv nv gv:Value}{b:Bd}{gs:List GNm}{DT DN:DataW Unit}(h:BAt w0 w bb tm nm rb tv nv gv b gs DT DN){B mb:Nat}{tb:Option Nat}{l:List Tk}{x:Txt}{dv kv sv rv:Value}{rs:List GRu}{D:DataW Unit}(hr:Rules w0 B rb mb tb l x dv kv sv rv rs D)(hrl:rs.map GRu.r=x.rules)(t:Tk)(ht:t.s.length≤8192)(k:Nat)(K:Int)(hK:K=(k:Int)) :
  Calls Tryz.prog 175 #[.pointer (some ⟨bb,0,none⟩),.agg #[.int .i64 t.k,.string (str t.s),.int .i64 t.p],.int .i64 K] w (BEnd w0 w bb tm nm rb tv nv gv gs (symbolB (leftOf x) b t k)):=by
 have HA:=Hd (h.alloc (.cells #[.int .i64 t.k,.string (str t.s),.int .i64 t.p] 201));have HCW:=Hd (((Chg.refl (Mine bb tm nm tv nv) w).alloc (.cells #[.int .i64 t.k,.string (str t.s),.int .i64 t.p] 201)).drew);have HNW:Hid (∀v v',Newer ((w.alloc (.cells #[.int .i64 t.k,.string (str t.s),.int .i64 t.p] 201)).drew) v v'→Newer w v v'):=Hd (fun v v' h k hk=>(h k hk).imp id (fun h=>leT (by simp) h));have HXB:=Hd (Blk.new w 201 #[.int .i64 t.k,.string (str t.s),.int .i64 t.p]);have HT:=Hd ht;have HL:=Hd (left_count rs x hrl t.s);by_cases h8:8≤k
 ·have q1:(8:Int)≤K:=by omega
  have HE:Hid (symbolB (leftOf x) b t k=.error (7,t.p)):=Hd (by simp[symbolB,h8]);clear h hr hrl ht hK h8;go_enter Tryz.func175,Tryz.ntmps175
  go_wp2_with (go_at_call 173;refine(fail_any _ _ _).mono ?_;rintro e w' ⟨rfl,hw'⟩;subst hw')
  refine⟨rfl,HA.out.below,?_⟩;rw[HE.out];exact Gives.of rfl rfl
 ·have q1:¬(8:Int)≤K:=by omega
  have HE8:Hid (symbolB (leftOf x) b t k=if b.T.contains t.s then .ok b else if t.k=2 then termB b t else if leftOf x t.s then .ok b else .error (9,t.p)):=Hd (by simp[symbolB,h8,termB]);clear h8 hK h;have HR1:=Hd (hr.later HA.out.below);clear hr hrl;generalize hw1:(w.alloc (.cells #[.int .i64 t.k,.string (str t.s),.int .i64 t.p] 201))=w1 at *;have hlook:=places_look HA.out.drew.mt HA.out.pt ht;obtain⟨c0,c1,c2,c3,c4,c7,hbb⟩:=HA.out.cells;have x0:=HXB.out.cell 0;have x1:=HXB.out.cell 1;have x2:=HXB.out.cell 2;simp at x0 x1 x2;by_cases hc:t.s∈b.T
  ·have HE:Hid (symbolB (leftOf x) b t k=.ok b):=Hd (by rw[HE8.out,if_pos (by simpa using hc)])
   rw[if_pos hc]at hlook;generalize hn:b.T.idxOf t.s+1=n1 at *;have q2:(0:Int)<(n1:Int):=by omega
   clear hc hn ht;go_enter Tryz.func175,Tryz.ntmps175
   go_wp2
   go_region
   go_wp2
   go_end0
   refine⟨HA.out.drew.below,?_⟩;rw[HE.out];exact⟨rfl,_,_,_,_,HA.out.drew,HCW.out,Newer.refl _ _,Newer.refl _ _⟩
  ·rw[if_neg hc,show ((0:Nat):Int)=0 from rfl]at hlook
   have HC:=Hd hc;by_cases h2:t.k=2
   ·have HE:Hid (symbolB (leftOf x) b t k=termB b t):=Hd (by rw[HE8.out,if_neg (by simpa using hc),if_pos h2])
    have HTM:=Hd (bterm_any HA.out.drew t HT.out hc);have q2:((t.k:Int)==2)=true:=by simp[h2]
    clear hc ht h2;cases hte:termB b t with
    | error f=>
     have HTE:=Hd hte;clear hte;go_enter Tryz.func175,Tryz.ntmps175
     go_wp2
     go_region
     go_wp2_with (go_at_call 207;refine HTM.out.mono ?_;intro e w2 hx;obtain⟨hb2,hx⟩:=hx;rw[HTE.out]at hx;have hx:e=_:=hx;subst hx)
     refine⟨rfl,hb2,?_⟩;rw[HE.out,HTE.out];exact Gives.of rfl rfl
    | ok b2=>
     have HTE:=Hd hte;clear hte;go_enter Tryz.func175,Tryz.ntmps175
     go_wp2
     go_region
     go_wp2_with (go_at_call 207;refine HTM.out.mono ?_;intro e w2 hx;obtain⟨hb2,hx⟩:=hx;rw[HTE.out]at hx;obtain⟨rfl,hx⟩:=hx;have HB2:=Hd hb2;have HX:=Hd hx;clear hb2 hx)
     go_end0
     refine⟨HB2.out,?_⟩;rw[HE.out,HTE.out];obtain⟨tv2,nv2,DT2,DN2,z1,z2,z3,z4⟩:=HX.out;exact⟨rfl,tv2,nv2,DT2,DN2,z1,HCW.out.next z2,HNW.out _ _ z3,HNW.out _ _ z4⟩
   ·have q2:((t.k:Int)==2)=false:=by simp;omega
    have hlook2:=lefts_look (map_chg HR1.out.map ((Chg.refl (fun _=>False) w1).drew.drew) id) HR1.out.lefts ht;obtain⟨_,_,_,_,c5,_⟩:=HR1.out.heads.stand.cells;generalize (rs.map fun r=>r.left.s).count t.s=n0 at *;by_cases h0:n0=0
    ·have HE:Hid (symbolB (leftOf x) b t k=.error (9,t.p)):=Hd (by rw[HE8.out,if_neg (by simpa using hc),if_neg h2,HL.out];simp[h0])
     have q3:((n0:Int)==0)=true:=by simp[h0]
     clear hc ht h2 h0;go_enter Tryz.func175,Tryz.ntmps175
     go_wp2
     go_region
     go_wp2
     go_region
     go_wp2_with (go_at_call 173;refine(fail_any _ _ _).mono ?_;rintro e w' ⟨rfl,hw'⟩;subst hw')
     refine⟨rfl,HA.out.drew.drew.below,?_⟩;rw[HE.out];exact Gives.of rfl rfl
    ·have HE:Hid (symbolB (leftOf x) b t k=.ok b):=Hd (by rw[HE8.out,if_neg (by simpa using hc),if_neg h2,HL.out];simp[h0])
     have q3:((n0:Int)==0)=false:=by simp;omega
     clear hc ht h2 h0;go_enter Tryz.func175,Tryz.ntmps175
     go_wp2
     go_region
     go_wp2
     go_region
     go_wp2
     go_end0
     refine⟨HA.out.drew.drew.below,?_⟩;rw[HE.out];exact⟨rfl,_,_,_,_,HA.out.drew.drew,HCW.out.drew,Newer.refl _ _,Newer.refl _ _⟩
theorem left_rel{w0 w w2 w4:World}{o:Obj}{bb tm nm rb:Nat}{tv nv gv:Value}{b:Bd}{gs:List GNm}{DT DN:DataW Unit}{s:Nme}{A2:Option Addr}{c2:Nat}
  (h:BAt w0 w bb tm nm rb tv nv gv b gs DT DN) (hs:s ∉ b.N) (hlt:b.N.length<120)
  (ho:w2.ownsRow w0.heap.size 9 1 (.slice A2 (b.N.length+1) c2) (b.N.length+1) (b.N.map Nv++[Nv s]))
  (hg:(w.alloc o).grownBy w2 nv.ownBlock∧((Value.slice A2 (b.N.length+1) c2).ownBlock=nv.ownBlock∨(Value.slice A2 (b.N.length+1) c2).ownBlock=some (w.alloc o).heap.size))
  (hm:w4.ownsMap Tryz.prog 9 (plainElem Tryz.prog 3) nm (b.N.length+1) (DN.put (klR s) (.lit (.int .i64 (b.N.length+1:Nat)))))
  (hg4:(w2.setCell ⟨bb,4,none⟩ (.slice A2 (b.N.length+1) c2)).drew.grownBy w4 (some nm)) :
  BAt w0 w4 bb tm nm rb tv (.slice A2 (b.N.length+1) c2) gv {b with N:=b.N++[s]} gs DT (DN.put (klR s) (.lit (.int .i64 (b.N.length+1:Nat))))∧Chg (Mine bb tm nm tv nv) w w4∧Newer w nv (.slice A2 (b.N.length+1) c2):=by
 have hX:Chg (fun k=>nv.ownBlock=some k) w w2:=((Chg.refl _ w).alloc o).next (.of_grown hg.1);have hXY:Chg (fun k=>nv.ownBlock=some k∨k=bb) w (w2.setCell ⟨bb,4,none⟩ (.slice A2 (b.N.length+1) c2)).drew:=((hX.mono (fun i hi=>.inl hi)).set (p:=⟨bb,4,none⟩) (.inr (.inr rfl)) _).drew;have h4:=Chg.of_map hg4;have hY:Chg (fun k=>(nv.ownBlock=some k∨k=bb)∨k=nm) w w4:=(hXY.mono (fun i hi=>.inl hi)).next (h4.mono (fun i hi=>.inr hi));have hbb:=h.blk.lt;have htm:=map_lt9 h.mn;have e1:¬nv.ownBlock=some bb:=row_blk h.fn h.blk (by decide);have e2:¬nv.ownBlock=some nm:=map_apart h.mn h.fn;have e3:nm≠bb:=map_blk h.mn h.blk
 have e4:tm≠bb:=map_blk h.mt h.blk;have e5:¬nv.ownBlock=some tm:=map_apart h.mt h.fn;have hnew:∀k,(Value.slice A2 (b.N.length+1) c2).ownBlock=some k→k≠bb∧k≠nm:=by
  intro k hk;rcases hg.2 with e|e
  ·rw[e]at hk
   exact⟨by rintro rfl;exact e1 hk,by rintro rfl;exact e2 hk⟩
  ·rw[e]at hk
   cases hk
   exact⟨by simp;omega,by simp;omega⟩
 have hrow:∀{e:TypeId} {sz n:Nat} {v:Value} {xs:List Value},w.ownsRow w0.heap.size e sz v n xs→e≠144→(∀k,nv.ownBlock=some k→¬v.ownBlock=some k)→w4.ownsRow w0.heap.size e sz v n xs:=by
  intro e sz n v xs hr he hd;refine hY.own hr ?_;rintro k hk ((hh|rfl)|rfl)
  ·exact hd k hh hk
  ·exact row_blk hr h.blk he hk
  ·exact map_apart h.mn hr hk
 have happ:∀{v:Value} {B n sz:Nat} {e:TypeId} {xs:List Value},w.ownsRow B e sz v n xs→(∀k,nv.ownBlock=some k→¬v.ownBlock=some k)→∀k,(Value.slice A2 (b.N.length+1) c2).ownBlock=some k→¬v.ownBlock=some k:=by
  intro v B n sz e xs hr hd k hk hv;rcases hg.2 with e|e
  ·rw[e]at hk;exact hd k hk hv
  ·rw[e]at hk
   cases hk
   have:=(own_ge hr _ hv).2;simp at this;omega
 refine⟨?_,hY.mono ?_,?_⟩
 rotate_left
 ·rintro k ((hh|rfl)|rfl)
  ·exact .inr (.inr (.inr (.inr hh)))
  ·exact .inl rfl
  ·exact .inr (.inr (.inl rfl))
 ·intro k hk
  rcases hg.2 with e|e
  ·exact .inl (e▸hk)
  ·rw[e]at hk
   cases hk
   exact .inr (by simp)
 refine⟨?_,?_,hrow h.ft (by decide) (fun k hk hk2=>h.tn k hk2 hk),?_,hrow h.fg (by decide) (fun k hk hk2=>own_apart h.fn h.fg (by decide) k hk hk2),h.names,fun q hq=>hrow (h.rows q hq) (by decide) (h.nr q hq),fun k hk hk2=>happ h.ft (fun k hk hk2=>h.tn k hk2 hk) k hk2 hk,h.tr,fun q hq=>happ (h.rows q hq) (h.nr q hq),?_,by simpa using hm,h.pt,?_,h.b0,h.b1,h.lt,by simp;omega,h.lr⟩
 ·refine h.below.trans (hY.below h.below.size ?_)
  rintro k hk ((hh|rfl)|rfl)
  ·have:=(own_ge h.fn k hh).1;omega
  ·have:=h.b0.1;omega
  ·have:=h.b0.2.2;omega
 ·refine h4.blk (cs:=#[.pointer (some ⟨rb,0,none⟩),.map (some tm),.map (some nm),tv,.slice A2 (b.N.length+1) c2,.slice none 0 0,.int .i64 0,gv]) ?_ (fun e=>e3 e.symm)
  have:=(hX.blk h.blk e1).set_ 4 (.slice A2 (b.N.length+1) c2);exact(Chg.refl (fun _=>False) _).drew.blk (by simpa using this) id
 ·rw[mpA,show (b.N++[s]).length=b.N.length+1 by simp]
  exact h4.own ((Chg.refl (fun _=>False) _).drew.own (own_far (by simpa using ho) (fun e=>(hnew _ e).1 rfl) _) (fun _ _=>id)) (fun k hk e=>(hnew k hk).2 e)
 ·refine map_chg h.mt hY ?_
  rintro((hh|hh)|hh)
  ·exact e5 hh
  ·exact e4 hh
  ·exact h.b1 hh
 ·exact h.pn.next (h.mn.tidy lawStrR) hs
theorem mem_take(s:Nme):∀(L:List Nme) (D:Nat),s∈L.take D↔s∈L∧L.idxOf s<D:=by
 intro L;induction L with
 | nil=>intro D;simp
 | cons a L ih=>
  intro D;cases D with
  | zero=>simp
  | succ D=>
   rw[List.take_succ_cons,List.mem_cons,List.mem_cons,ih D,List.idxOf_cons];by_cases e:a=s
   ·subst e;simp
   ·have h1:(a==s)=false:=by simpa using e
    have h2:¬s=a:=fun h=>e h.symm
    simp[h1,h2]
set_option maxRecDepth 100000 in
set_option maxHeartbeats 3200000 in
theorem left_any{w0 w:World}{bb tm nm rb:Nat}{tv nv gv:Value}{b:Bd}{gs:List GNm}{DT DN:DataW Unit}(h:BAt w0 w bb tm nm rb tv nv gv b gs DT DN)(t:Tk)(ht:t.s.length≤8192)(d:Nat)(K:Int)(hK:K=(d:Int)) :
  Calls Tryz.prog 123 #[.pointer (some ⟨bb,0,none⟩),.agg #[.int .i64 t.k,.string (str t.s),.int .i64 t.p],.int .i64 K] w (BEnd w0 w bb tm nm rb tv nv gv gs (leftB d b t)):=by
 obtain⟨A,c,rfl⟩:=own_shape h.fn;have HA:=Hd (h.alloc (.cells #[.int .i64 t.k,.string (str t.s),.int .i64 t.p] 201));have HCW:=Hd ((((Chg.refl (Mine bb tm nm tv (.slice A b.N.length c)) w).alloc (.cells #[.int .i64 t.k,.string (str t.s),.int .i64 t.p] 201)).drew).drew);have HNW:Hid (∀v',Newer ((w.alloc (.cells #[.int .i64 t.k,.string (str t.s),.int .i64 t.p] 201)).drew.drew.drew) (.slice A b.N.length c) v'→Newer w (.slice A b.N.length c) v'):=Hd (fun v' h k hk=>(h k hk).imp id (fun h=>leT (by simp) h));have HXB:=Hd (Blk.new w 201 #[.int .i64 t.k,.string (str t.s),.int .i64 t.p])
 have hwx:w.heap.size<(w.alloc (.cells #[.int .i64 t.k,.string (str t.s),.int .i64 t.p] 201)).heap.size:=by simp
 have HT:=Hd ht;have hln:=h.ln;clear h;generalize hw1:(w.alloc (.cells #[.int .i64 t.k,.string (str t.s),.int .i64 t.p] 201))=w1 at *;have hlook:=places_look HA.out.drew.mt HA.out.pt ht;obtain⟨c0,c1,c2,c3,c4,c7,hbb⟩:=HA.out.cells;have x0:=HXB.out.cell 0;have x1:=HXB.out.cell 1;have x2:=HXB.out.cell 2;simp at x0 x1 x2;by_cases hd:t.s∈b.T.take d
 ·have HE:Hid (leftB d b t=.error (8,t.p)):=Hd (by simp only[leftB];rw[if_pos (by simpa using hd)])
  obtain⟨hd1,hd2⟩:=(mem_take _ _ _).1 hd;rw[if_pos hd1]at hlook;have q1:(0:Int)<((b.T.idxOf t.s+1:Nat):Int):=by omega
  have q2:((b.T.idxOf t.s+1:Nat):Int)≤K:=by omega
  generalize b.T.idxOf t.s+1=n1 at *;clear hd hd1 hd2 ht hK;go_enter Tryz.func123,Tryz.ntmps123
  go_wp2
  go_region
  go_wp2_with (go_at_call 173;refine(fail_any _ _ _).mono ?_;rintro e w' ⟨rfl,hw'⟩;subst hw')
  refine⟨rfl,HA.out.drew.below,?_⟩;rw[HE.out];exact Gives.of rfl rfl
 ·have hB:∃n1:Nat,(Instr.lookup 137 (.map (some tm)) (.string (str t.s)) false).run Tryz.prog w1.drew=.ok (.int .i64 (n1:Int)) w1.drew∧(decide ((0:Int)<(n1:Int))=false∨decide ((0:Int)<(n1:Int))=true∧decide ((n1:Int)≤K)=false):=by
   refine⟨_,hlook,?_⟩;by_cases hm:t.s∈b.T
   ·rw[if_pos hm]
    have:¬b.T.idxOf t.s<d:=fun e=>hd ((mem_take _ _ _).2 ⟨hm,e⟩)
    exact .inr ⟨by rw[decide_eq_true_eq];omega,by rw[decide_eq_false_iff_not];omega⟩
   ·rw[if_neg hm]
    exact .inl rfl
  clear hlook;obtain⟨n1,hlook,hB⟩:=hB;simp only[decide_eq_false_iff_not,decide_eq_true_eq]at hB;have HE0:Hid (leftB d b t=if b.N.contains t.s then .ok b else if 120≤b.N.length then .error (7,t.p) else .ok {b with N:=b.N++[t.s]}):=Hd (by simp only[leftB];rw[if_neg (by simpa using hd)]);have hlook2:=places_look HA.out.drew.drew.mn HA.out.pn ht;by_cases hc:t.s∈b.N
  ·have HE:Hid (leftB d b t=.ok b):=Hd (by rw[HE0.out,if_pos (by simpa using hc)])
   rw[if_pos hc]at hlook2;have q3:(0:Int)<((b.N.idxOf t.s+1:Nat):Int):=by omega
   generalize b.N.idxOf t.s+1=n2 at *;clear hd hc ht hK;rcases hB with q1|⟨q1,q2⟩
   all_goals
    go_enter Tryz.func123,Tryz.ntmps123
    go_wp2
    go_region
    go_wp2
    go_region
    go_wp2
   all_goals refine bodyPost_ret (results_none rfl _ _ _) rfl ⟨HA.out.drew.drew.below,?_⟩
   all_goals rw[HE.out]
   all_goals exact⟨rfl,_,_,_,_,HA.out.drew.drew,HCW.out,Newer.refl _ _,Newer.refl _ _⟩
  ·rw[if_neg hc,show ((0:Nat):Int)=0 from rfl]at hlook2
   have HC:=Hd hc;by_cases hm:120≤b.N.length
   ·have HE:Hid (leftB d b t=.error (7,t.p)):=Hd (by rw[HE0.out,if_neg (by simpa using hc),if_pos hm])
    have q3:(120:Int)≤(b.N.length:Int):=by omega
    clear hd hc ht hK hm;generalize b.N.length=n at *;rcases hB with q1|⟨q1,q2⟩
    all_goals
     go_enter Tryz.func123,Tryz.ntmps123
     go_wp2
     go_region
     go_wp2
     go_region
     go_wp2_with (go_at_call 173;refine(fail_any _ _ _).mono ?_;rintro e w' ⟨rfl,hw'⟩;subst hw')
    all_goals refine⟨rfl,HA.out.drew.drew.below,?_⟩
    all_goals rw[HE.out]
    all_goals exact Gives.of rfl rfl
   ·have HE:Hid (leftB d b t=.ok {b with N:=b.N++[t.s]}):=Hd (by rw[HE0.out,if_neg (by simpa using hc),if_neg hm])
    have q3:¬(120:Int)≤(b.N.length:Int):=by omega
    have hm2:b.N.length<120:=by omega
    clear hd hc ht hK hm;rcases hB with q1|⟨q1,q2⟩
    all_goals
     go_enter Tryz.func123,Tryz.ntmps123
     go_wp2
     go_region
     go_wp2
     go_region
     go_wp2
    all_goals have HA2:=Hd HA.out.drew.drew
    all_goals have HXB2:=Hd (((Chg.refl (fun _=>False) w1).drew.drew).blk HXB.out id)
    all_goals clear hlook hlook2 c0 c1 c2 c3 c4 c7 hbb x0 x1 x2
    all_goals generalize w1.drew.drew=wy at *
    all_goals obtain⟨c0,c1,c2,c3,c4,c7,hbb⟩:=HA2.out.cells
    all_goals have x1:=HXB2.out.cell 1
    all_goals simp at x1
    all_goals have hw0:=HA2.out.below.size
    all_goals have hxy:=HXB2.out.lt
    all_goals have HAD:=Hd HA2.out.drew
    all_goals have HXD:=Hd (((Chg.refl (fun _=>False) wy).drew).blk HXB2.out id)
    all_goals generalize w.heap.size=xb at *
    all_goals go_region_law (
     refine step_app ElStrR (.tmp 47) (.tmp 50) ?_ ?_ (base:=w0.heap.size) (n:=b.N.length) (m:=1) (N:=b.N.length+1) (v:=.slice A b.N.length c) (src:=.slice (some ⟨wy.heap.size,0,none⟩) 1 1) (xs:=b.N.map Nv) (news:=[.string (str t.s)]) ?_ ?_ ?_ ?_ ?_ ?_ ?_ ?_ ?_
     ·rfl
     ·rfl
     ·rfl
     ·rfl
     ·exact HAD.out.fn.alloc _
     ·exact src_str wy.drew _
     ·rfl
     ·unfold maxLen;omega
     ·omega
     ·simp;omega
     intro A2 k2 w2 q1 q2 q3;have HQ1:=Hd q1;have HQ3:=Hd (show ((wy.drew.alloc (.cells #[.string (str t.s)] 9)).grownBy w2 (Value.slice A b.N.length c).ownBlock∧_) from q3);have hX:Chg (fun k=>(Value.slice A b.N.length c).ownBlock=some k) wy.drew w2:=((Chg.refl _ wy.drew).alloc (.cells #[.string (str t.s)] 9)).next (.of_grown q3.1);have hb2:=hX.blk HAD.out.blk (row_blk HAD.out.fn HAD.out.blk (by decide));have hx2:=hX.blk HXD.out (row_blk HAD.out.fn HXD.out (by decide));have z3:=hb2.cell 4;have zf:=hb2.frozen 4;simp at z3;have HB2:=Hd hb2;have HX2:=Hd hx2;have HMT2:=Hd (map_chg HAD.out.mn hX (map_apart HAD.out.mn HAD.out.fn))
     clear q1 q2 q3 hX hb2 hx2)
    all_goals go_wp2
    all_goals have hne:xb≠bb:=fun e=>Blk.ne_ (t:=201) HXB2.out HA2.out.blk (by decide) e
    all_goals have HB3:=Hd ((Chg.refl (fun _=>False) _).drew.blk (HB2.out.set_ 4 (.slice A2 (b.N.length+1) k2)) id)
    all_goals have HX3:=Hd ((Chg.refl (fun _=>False) _).drew.blk (HX2.out.far (p:=⟨bb,4,none⟩) (by simpa using hne) (.slice A2 (b.N.length+1) k2)) id)
    all_goals have HMT3:=Hd (map_chg HMT2.out ((Chg.refl (·=bb) w2).set (p:=⟨bb,4,none⟩) (.inr rfl) (.slice A2 (b.N.length+1) k2)).drew (map_blk HAD.out.mn HAD.out.blk))
    all_goals obtain⟨w4,hput,hm4,hg4⟩:=places_put HMT3.out (by omega) HT.out (c:=b.N.length+1) (by omega)
    all_goals have HF:=Hd (left_rel HAD.out HC.out hm2 HQ1.out HQ3.out hm4 hg4)
    all_goals clear hm4 hg4 c0 c1 c2 c3 c4 c7 x1 z3 zf HQ1 HQ3
    all_goals generalize hw3:World.setCell w2 ⟨bb,4,none⟩ (.slice A2 (b.N.length+1) k2)=w3 at *
    all_goals clear hw3
    all_goals have y2:=HB3.out.cell 2
    all_goals have y4:=HB3.out.cell 4
    all_goals have x3:=HX3.out.cell 1
    all_goals simp at y2 y4 x3
    all_goals have hput2:=hput
    all_goals push_cast at hput2
    all_goals go_region
    all_goals go_end0
    all_goals refine⟨HF.out.1.below,?_⟩
    all_goals rw[HE.out]
    all_goals exact⟨rfl,_,_,_,_,HF.out.1,HCW.out.drew.next HF.out.2.1,Newer.refl _ _,HNW.out _ HF.out.2.2⟩
def AlikeTo(a b:List Nme)(k:Nat):Prop:=∀j x y,j<k→a[j]?=some x→b[j]?=some y→x=y
theorem AlikeTo.next{a b:List Nme}{k:Nat}{x y:Nme}(h:AlikeTo a b k)(hx:a[k]?=some x)(hy:b[k]?=some y)(he:x=y):AlikeTo a b (k+1):=by
 intro j x' y' hj h1 h2;by_cases e:j=k
 ·subst e
  rw[hx]at h1;rw[hy]at h2;cases h1;cases h2;exact he
 ·exact h j x' y' (by omega) h1 h2
theorem AlikeTo.all{a b:List Nme}(hl:a.length=b.length)(h:AlikeTo a b a.length):(a==b)=true:=by
 rw[beq_iff_eq];apply List.ext_getElem?;intro j;by_cases hj:j<a.length
 ·rw[eG hj,eG (by omega)]
  rw[h j _ _ hj (eG hj) (eG (by omega))]
 ·rw[nG (by omega),nG (by omega)]
theorem alike_no{a b:List Nme}{k:Nat}{x y:Nme}(hx:a[k]?=some x)(hy:b[k]?=some y)(hn:¬x=y):(a==b)=false:=by
 rw[bN];rintro rfl;rw[hx]at hy;cases hy
 exact hn rfl
theorem str_inj{a b:List UInt8}(h:str a=str b):a=b:=by have:=congrArg (fun x:ByteArray=>x.data.toList) h;simpa [str] using this
theorem bytes_eq{a b:ByteArray}(h:a.toList=b.toList):a=b:=by rw[ByteArray.toList_eq,ByteArray.toList_eq]at h;exact ByteArray.ext (Array.ext' h)
set_option maxRecDepth 100000 in
set_option maxHeartbeats 1600000 in
theorem equalN_any{w:World}{B1 B2:Nat}{u v:Value}{a b:List Nme}(ha:w.ownsRow B1 9 1 u a.length (a.map Nv))(hb:w.ownsRow B2 9 1 v b.length (b.map Nv)):Calls Tryz.prog 178 #[u,v] w fun e w'=>e=.returned (.bool (a==b))∧∃q,w'=w.drewN q:=by
 obtain⟨A,c,hu⟩:=own_shape ha;obtain⟨A2,c2,hv⟩:=own_shape hb;have HCA:=Hd (fun(h:0<a.length)=>row_cell ha h);have HCB:=Hd (fun(h:0<b.length)=>row_cell hb h);have hal:a.length≤9223372036854775807:=by
  rcases own_form ha with⟨_,h0⟩|⟨_,c3,_,_,_,h1,h2,_⟩
  ·omega
  ·unfold maxLen at h2;omega
 subst hu;subst hv;clear ha hb;by_cases hl:a.length=b.length
 ·rw[←hl]
  have HL:=Hd hl;rw[←hl]at HCB;clear hl;go_enter Tryz.func178,Tryz.ntmps178
  go_wp2;go_loopw [5,13] (fun _ i wr=>∃k:Nat,k≤a.length∧i=.int .i64 k∧Hid (AlikeTo a b k)∧Hid (∃q,wr=w.drewN q)) (fun _ i _=>a.length-(intOf i).toNat)
  case atStart=>exact⟨0,zeL _,rfl,Hd (fun j x y hj=>absurd hj (Nat.not_lt_zero _)),Hd ⟨0,rfl⟩⟩
  case round=>
   obtain⟨k,hk,rfl,HE,HD⟩:=hrel;by_cases hlt:k<a.length
   ·have hx:=eG hlt
    have hy:=eG (show k<b.length by have:=HL.out;omega);generalize a[k]=x at hx;generalize b[k]'(by have:=HL.out;omega)=y at hy;obtain⟨g1,d1,e1,hcell1⟩:=HCA.out (by omega);obtain⟨g2,d2,e2,hcell2⟩:=HCB.out (by omega);cases e1
    cases e2
    have HX:=Hd hx;have HY:=Hd hy;have e1:wr.cell? ⟨g1,k,none⟩=some (.string (str x)):=by obtain⟨q,rfl⟩:=HD.out;exact hcell1 k _ (by rw[pG,hx];rfl)
    have e2:wr.cell? ⟨g2,k,none⟩=some (.string (str y)):=by obtain⟨q,rfl⟩:=HD.out;exact hcell2 k _ (by rw[pG,hy];rfl)
    clear hx hy hcell1 hcell2;by_cases hxy:x=y
    ·have HN:=Hd (HE.out.next HX.out HY.out hxy)
     have hb:((str x).toList==(str y).toList)=true:=by subst hxy;exact beq_self_eq_true _
     generalize str x=sx at *;generalize str y=sy at *;clear hxy;go_wp2;go_quiet (fail)
     have HDD:Hid (∃q,wr.drewN nq=w.drewN q):=Hd (by obtain⟨q,hq⟩:=HD.out;exact⟨q+nq,by rw[hq,World.drewN_drewN]⟩)
     go_wp2;go_roundw
     case rel=>exact⟨k+1,by omega,by go_num,HN,HDD⟩
     case measure=>simp[intOf];omega
    ·have HN:=Hd (alike_no HX.out HY.out hxy)
     have hb:((str x).toList==(str y).toList)=false:=bN.2 (fun h=>hxy (str_inj (bytes_eq h)));generalize str x=sx at *;generalize str y=sy at *;clear hxy;go_wp2;go_quiet (fail)
     go_wp2;go_ret;obtain⟨q,rfl⟩:=HD.out;exact⟨ret_bool HN.out.symm,_,World.drewN_drewN _ _ _⟩
   ·obtain rfl:k=a.length:=by omega
    have HN:=Hd (HE.out.all HL.out);go_wp2;go_ret;exact⟨ret_bool HN.out.symm,HD.out⟩
 ·have q1:((a.length:Int) != (b.length:Int))=true:=bne_iff_ne.2 (by omega)
  have HN:Hid ((a==b)=false):=Hd (by rw[bN];rintro rfl;exact hl rfl);clear hl;generalize a.length=n1 at *;generalize b.length=n2 at *;go_enter Tryz.func178,Tryz.ntmps178
  go_wp2;go_ret;exact⟨ret_bool HN.out.symm,0,rfl⟩
end Go.Proofs.YthaacmablcpdfaaGreatDoor
