/- The making of lookaheads. The automaton with its lookaheads. -/
import Derived.Test.YthaacmablcpdfaaGreatDoorZbr
import Derived.Laws.ResultCell
import Derived.Test.YthaacmablcpdfaaGreatDoorNm
namespace Go.Proofs.YthaacmablcpdfaaGreatDoor
open Go.RowKit
set_option linter.unusedVariables false
set_option maxRecDepth 100000
def LookOfEnd(w:World)(m:Nat)(l:List (List (Nat×Nat)))(e:Ending)(w':World):Prop:=∃ov,e=.returned (.tuple #[ov,.int .i64 0])∧LksO w.heap.size w' m ov l∧Below w.heap.size w w'
set_option maxHeartbeats 16000000 in
theorem lookOf_any{w:World}{v:Value}{g:Gz}(hg:GN w v g){f f2 f3:Nat}{L E:List (List It)}(ha:g.autoI f=some (L,E)){Em:Nat}{C:List Nat}{T:List (List (Nat×Bool))}{CC:List (List Come)}{n0:Nat}{FF:List (List It)}{ed:List Edge}{A:List Nat}(hi:LkIn g L E f2 f3 Em C T CC n0 FF ed A) :
  Calls Tryz.prog 61 #[v] w (LookOfEnd w (g.nt+1) (g.looksAll A L (Gz.bases L 0) FF)):=by
 obtain⟨n,hn⟩:∃n,L.length=n:=⟨_,rfl⟩
 have hn1:n≤100000:=by rw[←hn];exact hi.few.2.1
 have hmk:=fun y=>make_of (P:=Tryz.prog) (t:=186) (e:=246) (z:=.slice none 0 0) (bytes:=24) Tryz.underlying186 (by kernel_rfl) rfl (l:=((n:Nat):Int)) (n:=n) rfl (by omega) (by omega) y
 have HBU:Hid (∀y,Below w.heap.size w y→Calls Tryz.prog 60 #[v] y fun e w'=>∃lv V,e=.returned (.tuple #[lv,.int .i64 0])∧Aut w' lv V L E∧Below y.heap.size y w'):=Hd (fun y hy=>build_any (hg.later hy) ha);have HG:=Hd (fun y (hy:Below w.heap.size w y)=>hg.later hy);have HI:=Hd hi;have HN:=Hd hn;obtain⟨AT,cT,AN,cN,AR,cR,rfl,-,-⟩:=hg.open_;have HGB:=Hd (Blk.new w 32 #[.slice AT g.nt cT,.slice AN g.nn cN,.slice AR g.R.length cR,.int .i64 g.s]);have HB0:=Hd (below_alloc w (.cells #[.slice AT g.nt cT,.slice AN g.nn cN,.slice AR g.R.length cR,.int .i64 g.s] 32));clear hg ha hi hn
 unfold LookOfEnd;go_enter Tryz.func61,Tryz.ntmps61
 go_upto_region 4 with
  (
   go_at_call 60;refine(HBU.out _ HB0.out).mono ?_;rintro e w1 ⟨lv,V,rfl,hA,hb1⟩
   have HB1:=Hd (HB0.out.trans (hb1.mono HB0.out.size));have HA:=Hd hA;have HG1:=Hd (HGB.out.below hb1 HGB.out.lt);obtain⟨⟨AL,cL,hlv,hcap,-⟩,⟨hl1,-⟩,-,-,-⟩:=id hA;subst hlv;have g0:=Blk.cell HG1.out 0;have g1:=Blk.cell HG1.out 1;have g2:=Blk.cell HG1.out 2;have g3:=Blk.cell HG1.out 3;simp at g0 g1 g2 g3;have hVn:V.length=n:=by rw[←hl1,HN.out]
   rw[hVn]at HA;rw[hVn];clear hA hb1)
 generalize hgb:w.heap.size=gb at HG1 g0 g1 g2 g3 ⊢;refine wp_regionK 7 (fun(v:World)=>v.cell? ⟨gb,0,none⟩=some (.slice AT g.nt cT)∧v.cell? ⟨gb,1,none⟩=some (.slice AN g.nn cN)∧v.cell? ⟨gb,2,none⟩=some (.slice AR g.R.length cR)∧v.cell? ⟨gb,3,none⟩=some (.int .i64 g.s)) (by kernel_rfl) ?_;have hHeld:(fun(v:World)=>v.cell? ⟨gb,0,none⟩=some (.slice AT g.nt cT)∧v.cell? ⟨gb,1,none⟩=some (.slice AN g.nn cN)∧v.cell? ⟨gb,2,none⟩=some (.slice AR g.R.length cR)∧v.cell? ⟨gb,3,none⟩=some (.int .i64 g.s)) w1.drew:=⟨g0,g1,g2,g3⟩
 refine takeQ 0 hHeld ?_;simp only[setS,setZ];refine takeQ 1 hHeld ?_;simp only[setS,setZ];refine takeQ 2 hHeld ?_;simp only[setS,setZ];refine takeQ 3 hHeld ?_;simp only[setS,setZ];clear hHeld;refine nextK 4 (by kernel_rfl) rfl rfl (fun K hK=>?_);go_simp;have HF2:=Hd (Blk.new w1 246 (Array.replicate n (.slice none 0 0)));have HB2:Hid (Below w1.heap.size w1 (w1.alloc (.cells (Array.replicate n (.slice none 0 0)) 246))):=Hd (below_alloc w1 _);have HG2:=Hd (HG1.out.below HB2.out HG1.out.lt);have hHeld:(fun(v:World)=>v.cell? ⟨gb,0,none⟩=some (.slice AT g.nt cT)∧v.cell? ⟨gb,1,none⟩=some (.slice AN g.nn cN)∧v.cell? ⟨gb,2,none⟩=some (.slice AR g.R.length cR)∧v.cell? ⟨gb,3,none⟩=some (.int .i64 g.s)) (w1.alloc (.cells (Array.replicate n (.slice none 0 0)) 246)).drew:=⟨Blk.cell HG2.out 0,Blk.cell HG2.out 1,Blk.cell HG2.out 2,Blk.cell HG2.out 3⟩
 refine hK.out _ _ (fun _=>hHeld) ?_;clear hK K;refine takeQ 5 hHeld ?_;simp only[setS,setZ];generalize hfb:w1.heap.size=fb at *;have HFB:=Hd hfb;clear hfb;generalize w1.alloc (.cells (Array.replicate n (.slice none 0 0)) 246)=w2 at *;refine nextK 6 (by kernel_rfl) rfl rfl (fun K hK=>?_);go_simp;have HM2:=Hd (Blk.new w2 192 (MkA (.agg #[.slice AT g.nt cT,.slice AN g.nn cN,.slice AR g.R.length cR,.int .i64 g.s]) (.slice AL n cL) (.slice none 0 0) (.slice none 0 0) (.slice none 0 0) (.slice none 0 0) (.slice none 0 0) (.slice none 0 0) (.slice none 0 0) (.slice (some ⟨fb,0,none⟩) n n)))
 clear hHeld;have HG3:=Hd (HG2.out.alloc (.cells #[.slice AT g.nt cT,.slice AN g.nn cN,.slice AR g.R.length cR,.int .i64 g.s,.slice AL n cL,.slice none 0 0,.slice none 0 0,.slice none 0 0,.slice none 0 0,.slice none 0 0,.slice none 0 0,.slice none 0 0,.slice (some ⟨fb,0,none⟩) n n] 192));refine hK.out _ _ (fun _=>⟨Blk.cell HG3.out 0,Blk.cell HG3.out 1,Blk.cell HG3.out 2,Blk.cell HG3.out 3⟩) ?_;clear hK K;refine nextK 7 (by kernel_rfl) rfl rfl (fun K hK=>?_);go_simp;refine hK.out _ _ (fun h=>absurd rfl h) ?_;clear hK K;refine doneK (by kernel_rfl) ?_ _;have HB4:Hid (Below fb w1 (w2.alloc (.cells (MkA (.agg #[.slice AT g.nt cT,.slice AN g.nn cN,.slice AR g.R.length cR,.int .i64 g.s]) (.slice AL n cL) (.slice none 0 0) (.slice none 0 0) (.slice none 0 0) (.slice none 0 0) (.slice none 0 0) (.slice none 0 0) (.slice none 0 0) (.slice (some ⟨fb,0,none⟩) n n)) 192))):=Hd (HB2.out.alloc (by have:=HB2.out.size;rw[HFB.out]at this;exact this) _)
 have HF4:=Hd (HF2.out.alloc (.cells (MkA (.agg #[.slice AT g.nt cT,.slice AN g.nn cN,.slice AR g.R.length cR,.int .i64 g.s]) (.slice AL n cL) (.slice none 0 0) (.slice none 0 0) (.slice none 0 0) (.slice none 0 0) (.slice none 0 0) (.slice none 0 0) (.slice none 0 0) (.slice (some ⟨fb,0,none⟩) n n)) 192));have HLO:Hid (w1.heap.size≤fb∧fb<w2.heap.size):=Hd ⟨by rw[HFB.out];exact leR _,HF2.out.lt⟩;generalize w2.heap.size=mb at *;go_wp2_with
  (
   go_at_call 111
   refine(lprep_any (HG.out w1 HB1.out) (by rw[HFB.out];exact HB4.out.drew) (leT HLO.out.1 (Nat.le_of_lt HLO.out.2)) HM2.out.drew HI.out.first HI.out.tails HI.out.comes).mono ?_;rintro e w3 hp;obtain⟨rfl,rv,tlv,uv,cv,hb3,hst,hbe,hsz,hch⟩:=hp.stc (HG.out w1 HB1.out) HA.out ⟨leT HLO.out.1 (Nat.le_of_lt HLO.out.2),HM2.out.drew.lt⟩ ⟨HLO.out.1,HF4.out.drew.lt⟩ HI.out.tlen HI.out.comes;have HST:=Hd hst;have HK0:=Hd (Mk.start (n:=n) (g:=g) hb3 ⟨_,_,_,_,rfl⟩ hbe (leT HLO.out.1 (Nat.le_of_lt HLO.out.2)) HLO.out.1 (hch.blk HF4.out.drew (by have:=HLO.out.2;intro e;omega)) hn1)
   clear hp hb3 hst hbe hsz hch)
 have HAU:Hid (∀(k:Nat) (K:List It),L[k]?=some K→∃bL oL Ai ci,AL=some ⟨bL,oL,none⟩∧K.length≤100000∧∀y,Below w1.heap.size w1 y→bL<y.heap.size∧y.cell? ⟨bL,oL+k*2,none⟩=some (.slice Ai K.length ci)∧∀(j:Nat) (x:It),K[j]?=some x→∃b off,Ai=some ⟨b,off,none⟩∧b<y.heap.size∧y.cell? ⟨b,off+j*2,none⟩=some (.int .i64 x.1)∧y.cell? ⟨b,off+j*2+1,none⟩=some (.int .i64 x.2)):=Hd (fun k K hK=>by
  obtain⟨⟨A',c',hv,_,hc⟩,⟨hl1,hl2⟩,hit,-,hsmall⟩:=HA.out;have e2:AL=A':=by cases hv;rfl
  subst e2;have hk:=(sG.1 hK).1;obtain⟨xv,hxv⟩:∃x,V[k]?=some x:=⟨_,eG (by omega)⟩
  obtain⟨bL,oL,e,hbL,c0,c1⟩:=hc k xv hxv;obtain⟨⟨Ai,ci,hvi,hci⟩,hsi,hri⟩:=hit k xv K hxv hK;rw[hvi]at c0;refine⟨bL,oL,Ai,ci,e,leT (len_le_sumL hK) HI.out.small,fun y hy=>⟨ltL hbL hy.size,(hy.cell (p:=⟨bL,oL+k*2,none⟩) hbL).trans c0,fun j x hx=>?_⟩⟩;obtain⟨b,off,e1,h1,h2,h3⟩:=hci j x hx;exact⟨b,off,e1,ltL h1 hy.size,(hy.cell (p:=⟨b,off+j*2,none⟩) h1).trans h2,(hy.cell (p:=⟨b,off+j*2+1,none⟩) h1).trans h3⟩)
 generalize hvv:(Value.agg #[.slice AT g.nt cT,.slice AN g.nn cN,.slice AR g.R.length cR,.int .i64 g.s])=vv at HG HST HK0 ⊢;clear hvv HM2 HG3 HB2 HG2 HF2 HB4 HF4 HG1 HGB HB0 HBU hmk g0 g1 g2 g3;go_loopw [32] (fun ss wr=>∃(s np:Nat) (bv av:Value) (P:List SetH),s≤n∧ss=.int .i64 s∧Hid (Mk w1 w3 wr mb fb n n vv (.slice AL n cL) rv tlv uv cv bv av (.slice none 0 0) g ((Gz.bases L 0).take s) P (List.replicate np 0) [] (List.replicate n (.slice none 0 0,[])))∧Hid (P.length=np∧np=Gz.sumL (L.take s))) (fun ss _=>n-(intOf ss).toNat)
 case atStart=>exact⟨0,0,_,_,[],zeL _,rfl,HK0,Hd ⟨rfl,by simp[Gz.sumL]⟩⟩
 case round=>
  obtain⟨s,np,bv,av,P,hs,rfl,HK,HP⟩:=hrel;rename World=>w9
  by_cases hlt:s<n
  · obtain⟨K,hK⟩:∃K,L[s]?=some K:=⟨_,eG (by rw[HN.out];exact hlt)⟩
    have HKK:=Hd hK;have hbl:((Gz.bases L 0).take s).length=s:=by rw[List.length_take,bases_len,HN.out];omega
    obtain⟨Ab,cb,hbv⟩:=own_shape2 HK.out.bas;obtain⟨Aa,ca,hav⟩:=own_shape2 HK.out.all;rw[hbl]at hbv;rw[HP.out.1]at hav;subst hbv;subst hav;have y9:w9.cell? ⟨mb,9,none⟩=some (.slice Ab s cb):=by obtain⟨x0,x1,x2,x3,rfl⟩:=HK.out.vf;exact Blk.cell HK.out.blk 9
    have y10:w9.cell? ⟨mb,10,none⟩=some (.slice Aa np ca):=by obtain⟨x0,x1,x2,x3,rfl⟩:=HK.out.vf;exact Blk.cell HK.out.blk 10
    have yl:=HK.out.blk.lt;have HBL:=Hd hbl;have hnp:np≤100000:=by rw[HP.out.2];exact leT (sumL_le L s) HI.out.small
    obtain⟨lk,hlk⟩:∃k,K.length=k:=⟨_,rfl⟩
    have HLK:=Hd hlk;clear hK hbl hlk;go_upto_region 9 with fail
    refine wp_regionK 14 (fun(v:World)=>v.cell? ⟨mb,9,none⟩=some (.slice Ab s cb)∧v.cell? ⟨mb,10,none⟩=some (.slice Aa np ca)) (by kernel_rfl) ?_;have hHeld:(fun(v:World)=>v.cell? ⟨mb,9,none⟩=some (.slice Ab s cb)∧v.cell? ⟨mb,10,none⟩=some (.slice Aa np ca)) w9.drew:=⟨y9,y10⟩
    refine takeQ 0 hHeld ?_;simp only[setS,setZ];refine takeQ 1 hHeld ?_;simp only[setS,setZ];refine takeQ 2 hHeld ?_;simp only[setS,setZ];refine takeQ 3 hHeld ?_;simp only[setS,setZ];refine takeQ 4 hHeld ?_;simp only[setS,setZ];refine takeQ 5 hHeld ?_;simp only[setS,setZ];refine takeQ 6 hHeld ?_;simp only[setS,setZ];refine takeQ 7 hHeld ?_;simp only[setS,setZ];refine takeQ 8 hHeld ?_;simp only[setS,setZ];refine takeQ 9 hHeld ?_;simp only[setS,setZ];clear hHeld;refine nextK 10 (by kernel_rfl) rfl rfl (fun K hK=>?_);go_simp;have HB10:Hid (Below w9.heap.size w9 ((w9.alloc (.cells #[.int .i64 np] 3)).drew)):=Hd ((below_alloc1 w9 _).drew)
    refine hK.out _ _ (fun _=>⟨(HB10.out.cell (p:=⟨mb,9,none⟩) yl).trans y9,(HB10.out.cell (p:=⟨mb,10,none⟩) yl).trans y10⟩) ?_;clear hK K;refine nextKv 11 (by kernel_rfl) rfl rfl rfl (fun K hK=>?_);refine wp_app ElIntQ (.tmp 39) (.tmp 45) rfl (base:=w3.heap.size) (n:=s) (m:=1) (N:=s+1) (v:=.slice Ab s cb) (src:=.slice (some ⟨w9.heap.size,0,none⟩) 1 1) (xs:=((Gz.bases L 0).take s).map NatV) (news:=[.int .i64 np]) rfl rfl (own_below (by have h:=HK.out.bas;rw[HBL.out]at h;exact h) HB10.out) (SrcOK.blk (c:=1) (cs:=[.int .i64 np]) ((Blk.new w9 3 _).drew) rfl (by simp[Value.oneCell'])) rfl (by unfold maxLen;omega) (by omega) (by have:=HK.out.chg.size;have:=HB10.out.size;omega) ?_
    intro A4 c4 w4 q1 q2 q3;have HMX:=Hd (HK.out.based HB10.out (x:=np) (by rw[HBL.out];exact q1) q2);rw[HBL.out]at HMX;have HM4:Hid (Blk w4 mb 192 _):=Hd (q2.blk (HK.out.blk.below HB10.out HK.out.blk.lt) (.inr (by decide)));have z9:w4.cell? ⟨mb,9,none⟩=some (.slice Ab s cb):=by obtain⟨x0,x1,x2,x3,rfl⟩:=HK.out.vf;exact Blk.cell HM4.out 9
    have z10:w4.cell? ⟨mb,10,none⟩=some (.slice Aa np ca):=by obtain⟨x0,x1,x2,x3,rfl⟩:=HK.out.vf;exact Blk.cell HM4.out 10
    have yf:w4.frozen? ⟨mb,9,none⟩=false:=by obtain⟨x0,x1,x2,x3,rfl⟩:=HK.out.vf;exact Blk.frozen HM4.out 9
    have yl4:=HM4.out.lt;clear q1 q2 q3 y9 y10 yl;refine hK.out _ _ (fun _=>⟨z9,z10⟩) ?_;clear hK K;simp only[List.set_cons_succ,List.set_cons_zero];refine nextK 12 (by kernel_rfl) rfl rfl (fun K hK=>?_);go_simp;refine hK.out _ _ (fun _=>⟨z9,z10⟩) ?_;clear hK K;refine nextK 13 (by kernel_rfl) rfl rfl (fun K hK=>?_);go_simp;refine hK.out _ _ (fun _=>⟨z9,z10⟩) ?_;clear hK K;refine nextK 14 (by kernel_rfl) rfl rfl (fun K hK=>?_);go_simp;refine hK.out _ _ (fun h=>absurd rfl h) ?_;clear hK K;refine doneK (by kernel_rfl) ?_ _;generalize w4.setCell ⟨mb,9,none⟩ (.slice A4 (s+1) c4)=w5 at *;have HB5:Hid (Below w1.heap.size w1 w5):=Hd HMX.out.1.below
    have HK5:=Hd HMX.out.1;rw[HP.out.2,←bases_take HKK.out,←HP.out.2]at HK5;obtain⟨bL,oL,Ai,ci,hAL,hlk1,hY⟩:=HAU.out s _ HKK.out;obtain⟨lL,x0,-⟩:=hY w5 HB5.out;clear hY;rw[HLK.out]at x0 hlk1;have HSM:Hid (np+lk=Gz.sumL (L.take (s+1))∧np+lk≤100000):=Hd (by have h1:=sumL_take HKK.out;have h2:=sumL_le L (s+1);have h3:=HI.out.small;have h4:=HP.out.2;have h5:=HLK.out;omega)
    have HAL:=Hd hAL;subst hAL;go_wp2_with fail
    clear z9 z10 yf yl4 x0 lL HMX HB10;go_loopw [55] (fun jj wr=>∃(j:Nat) (av:Value) (P:List SetH),j≤lk∧jj=.int .i64 j∧Hid (Mk w1 w3 wr mb fb n n vv (.slice (some ⟨bL,oL,none⟩) n cL) rv tlv uv cv (.slice A4 (s+1) c4) av (.slice none 0 0) g ((Gz.bases L 0).take (s+1)) P (List.replicate (np+j) 0) [] (List.replicate n (.slice none 0 0,[])))∧Hid (P.length=np+j)) (fun jj _=>lk-(intOf jj).toNat)
    case atStart=>exact⟨0,_,P,zeL _,rfl,HK5,Hd HP.out.1⟩
    case round=>
     obtain⟨j,av6,P6,hj,rfl,HK6,HP6⟩:=hrel;rename World=>w6
     by_cases hjl:j<lk
     · have hp6:P6.length≤1000000:=by have:=HP6.out;have:=HSM.out.2;omega
       go_wp2_with
        (
         go_at_call 112
         refine(mfresh_any (HG.out w1 HB1.out) HK6.out hp6).mono ?_;rintro e w7 ⟨rfl,av7,t7,hk7,-,-⟩;have HK7:=Hd hk7;clear hk7)
       go_roundw
       case rel=>exact⟨j+1,av7,P6++[t7],by omega,by go_num,Hd (by have h:=HK7.out;rw[←List.replicate_succ']at h;exact h),Hd (by rw[lnA,HP6.out];rfl)⟩
       case measure=>simp[intOf];omega
     · obtain rfl:j=lk:=by omega
       go_wp2_with fail
       go_roundw
       case rel=>exact⟨s+1,np+j,_,av6,P6,by omega,by go_num,HK6,Hd ⟨HP6.out,HSM.out.1⟩⟩
       case measure=>simp[intOf];omega
  · obtain rfl:n=s:=by omega
    have HK9:=Hd HK.out;rw[tkL (by rw[bases_len,HN.out];exact leR _)]at HK9;have HP9:Hid (P.length=Gz.sumL L∧np=Gz.sumL L):=Hd (by have h1:=HP.out.2;rw[tkL (by rw[HN.out];exact leR _)]at h1;exact⟨HP.out.1.trans h1,h1⟩)
    have hpos:0<np:=by have:=HP9.out.2;have:=HI.out.some_;omega
    obtain⟨p0,hp0⟩:∃p,P[0]?=some p:=⟨_,eG (by rw[HP.out.1];exact hpos)⟩
    obtain⟨ba,ca,hav⟩:=own_someQ HK.out.all (by rw[HP.out.1];exact hpos);rw[HP.out.1]at hav;subst hav;have y10:w9.cell? ⟨mb,10,none⟩=some (.slice (some ⟨ba,0,none⟩) np ca):=by obtain⟨x0,x1,x2,x3,rfl⟩:=HK.out.vf;exact Blk.cell HK.out.blk 10
    have ya:w9.cell? ⟨ba,0,none⟩=some (.pointer (some ⟨p0.h,0,none⟩)):=by have hall:=HK.out.all;rw[HP.out.1]at hall;rw[own_cell hall 0 (by omega),pG,hp0];rfl
    have yl:=HK.out.blk.lt;have hpi:(0:Int)<(np:Int):=by omega
    have HPT:=Hd (HK9.out.put0 hp0);have HSZ:Hid ((List.replicate np 0).set 0 ((List.replicate np 0).getD 0 0|||1)=(List.replicate np 0).set 0 1):=Hd (by
     cases np with
     | zero=>omega
     | succ m=>simp[List.replicate_succ])
    rw[HSZ.out]at HPT;clear hp0;go_wp2_with
     (
      go_at_call 86
      refine HPT.out.mono ?_;rintro e w10 ⟨⟨b10,rfl⟩,hk10⟩;have HK10:=Hd hk10;clear hk10)
    clear y10 ya yl hpi HPT HK HK9 HK0 HSZ;obtain⟨Ab,cb,hbv⟩:=own_shape2 HK10.out.bas;rw[bases_len,HN.out]at hbv;subst hbv;have HPL:=Hd HP.out.1;have HNS:=Hd HP9.out.2;clear HP HP9;go_loopw [70] (fun ii wr=>∃(i nq:Nat) (av ev:Value) (P:List SetH) (ED:List (Option SetH×Edge)) (FR:List (Value×List It)) (F0:List (List It)),i≤n∧ii=.int .i64 i∧Hid (Mk w1 w3 wr mb fb n n vv (.slice AL n cL) rv tlv uv cv (.slice Ab n cb) av ev g (Gz.bases L 0) P ((List.replicate np 0).set 0 1++List.replicate (nq-np) 0) ED FR)∧Hid (P.length=nq∧np≤nq∧F0.length=i∧FR.map (·.2)=F0++List.replicate (n-i) [])∧Hid (g.edgesAll L E (Gz.bases L 0) T CC (L.drop i) i (nq,F0,ED.map (·.2))=some (n0,FF,ed))) (fun ii _=>n-(intOf ii).toNat)
    case atStart=>exact⟨0,np,_,_,P,[],_,[],zeL _,rfl,Hd (by rw[Nat.sub_self,List.replicate_zero,List.append_nil];exact HK10.out),Hd ⟨HPL.out,leR _,rfl,by simp⟩,Hd (by have h:=HI.out.edges;rw[←HNS.out]at h;exact h)⟩
    case round=>
     obtain⟨i,nq,av,ev,P,ED,FR,F0,hi,rfl,HK,HP,HE⟩:=hrel;rename World=>w12
     by_cases hlt:i<n
     · obtain⟨K,hK⟩:∃K,L[i]?=some K:=⟨_,eG (by rw[HN.out];exact hlt)⟩
       have HKK:=Hd hK;have HES:=HE.out;have hd:L.drop i=K::L.drop (i+1):=by obtain⟨h1,h2⟩:=sG.1 hK;rw[List.drop_eq_getElem_cons h1,h2]
       rw[hd]at HES;obtain⟨q,hq,hE2,hq1,hq2,hq3,hq4⟩:=edgesAll_step HES;have HQ:=Hd hq;have HE2:=Hd hE2;have HQB:Hid (nq≤q.1∧q.1≤100000∧q.2.1.length≤100000∧q.2.2.length≤1000000):=Hd ⟨hq1,leT hq2 HI.out.few.1,(HI.out.rules _ hq4).1,leT hq3 HI.out.few.2.2⟩;have hfr:∃fv,FR[i]?=some (fv,[]):=by
        have h1:(FR.map (·.2))[i]?=some []:=by rw[HP.out.2.2.2,List.getElem?_append_right (by rw[HP.out.2.2.1];exact leR _),HP.out.2.2.1,Nat.sub_self,List.getElem?_replicate,if_pos (by omega)]
        rw[pG]at h1;obtain⟨⟨a,b⟩,h2,h3⟩:=Option.map_eq_some_iff.1 h1;simp only at h3;subst h3;exact⟨a,h2⟩
       obtain⟨fv,hfv⟩:=hfr;have HIS:=Hd (Itm.start HK.out hfv);rw[HP.out.1]at HIS;have HFL:Hid ((FR.map (·.2)).length=n):=Hd (by rw[HP.out.2.2.2,lnA,List.length_replicate,HP.out.2.2.1];omega);obtain⟨bL,oL,Ai,ci,hAL,hlk1,hY⟩:=HAU.out i _ hK;have HYY:=Hd hY;obtain⟨lL,x0,-⟩:=hY w12 HK.out.below;clear hY;obtain⟨lk,hlk⟩:∃k,K.length=k:=⟨_,rfl⟩
       have HLK:=Hd hlk;rw[hlk]at x0 hlk1;have HAL:=Hd hAL;subst hAL;obtain⟨b0,hb0⟩:∃x,(Gz.bases L 0)[i]?=some x:=⟨_,eG (by rw[bases_len,HN.out];exact hlt)⟩
       have hgb0:(Gz.bases L 0).getD i 0=b0:=by rw[dG,hb0];rfl
       have hb1:b0≤100000:=HI.out.smallB.2.1 b0 (mG hb0);rw[hgb0]at HQ;have HBB:=Hd hb0;clear hK HES hd hq hE2 hq1 hq2 hq3 hq4 hfv hlk hb0 hgb0;go_wp2_with fail
       clear x0 lL;go_loopw [79] (fun jj wr=>∃(j:Nat) (av ev:Value) (P:List SetH) (ED:List (Option SetH×Edge)) (FR2:List (Value×List It)) (p:Gz.Eds) (wz:World),j≤lk∧jj=.int .i64 j∧Hid (Itm w1 w3 wz wr mb fb n n vv (.slice (some ⟨bL,oL,none⟩) n cL) rv tlv uv cv (.slice Ab n cb) av ev g (Gz.bases L 0) P ((List.replicate np 0).set 0 1++List.replicate (nq-np) 0) ED FR2 (FR.map (·.2)) i nq p)∧Hid (g.edgeState L E (Gz.bases L 0) T CC i (K.drop j) (b0+j) p=some q)) (fun jj _=>lk-(intOf jj).toNat)
       case atStart=>exact⟨0,_,_,P,ED,FR,_,_,zeL _,rfl,HIS,Hd HQ.out⟩
       case round=>
        rename World=>w13
        obtain⟨j,av,ev,P,ED,FR2,p,wz,hj,rfl,HIT,HES⟩:=hrel;by_cases hjl:j<lk
        · obtain⟨⟨xa,xb⟩,hx⟩:∃x,K[j]?=some x:=⟨_,eG (by rw[HLK.out];exact hjl)⟩
          obtain⟨-,-,hci⟩:=HYY.out w13 HIT.out.mk_.below;obtain⟨bi,oi,hAi,hbi,d0,d1⟩:=hci j _ hx;clear hci;subst hAi;simp only at d0 d1;have hdj:K.drop j=(xa,xb)::K.drop (j+1):=by obtain⟨h1,h2⟩:=sG.1 hx;rw[List.drop_eq_getElem_cons h1,h2]
          have hes:=HES.out;rw[hdj]at hes;obtain⟨p2,he2,hes2,hgr⟩:=edgeState_step hes;have HE2:=Hd he2;have HES2:=Hd hes2;have HGR:Hid (p2.1≤100000∧p2.2.1.length≤100000∧p2.2.2.length≤1000000):=Hd (by obtain⟨g1,g2,g3⟩:=hgr;obtain⟨h1,h2,h3,h4⟩:=HQB.out;omega)
          have HXX:Hid (xa≤g.R.length∧xb≤1000000):=Hd (HI.out.items K (mG HKK.out) _ (mG hx));have HBX:=Hd (Blk.new w13 194 #[.int .i64 xa,.int .i64 xb]);have HIT2:Hid (Itm w1 w3 wz (w13.alloc (.cells #[.int .i64 xa,.int .i64 xb] 194)) mb fb n n vv (.slice (some ⟨bL,oL,none⟩) n cL) rv tlv uv cv (.slice Ab n cb) av ev g (Gz.bases L 0) P ((List.replicate np 0).set 0 1++List.replicate (nq-np) 0) ED FR2 (FR.map (·.2)) i nq p):=Hd (HIT.out.later (below_alloc1 w13 _));clear hx hdj hes he2 hes2 hgr HES;go_upto_region 22 with fail
          generalize w13.alloc (.cells #[.int .i64 xa,.int .i64 xb] 194)=w14 at *;generalize w13.heap.size=bx at *;clear d0 d1 hbi;obtain⟨⟨A',c',e1,hc⟩,-,-⟩:Nums w14 _ (Gz.bases L 0):=nums_own HIT2.out.mk_.bas (by rw[bases_len,HN.out];omega);obtain⟨bb,ob,hAb,hbb,hcb⟩:=hc i b0 HBB.out;have e2:Ab=A':=by cases e1;rfl
          subst e2;subst hAb;clear hc e1;have y9:w14.cell? ⟨mb,9,none⟩=some (.slice (some ⟨bb,ob,none⟩) n cb):=by obtain⟨x0,x1,x2,x3,rfl⟩:=HIT2.out.mk_.vf;exact Blk.cell HIT2.out.mk_.blk 9
          have yl:=HIT2.out.mk_.blk.lt;have x0:w14.cell? ⟨bx,0,none⟩=some (.int .i64 xa):=Blk.cell HBX.out 0;have x1:w14.cell? ⟨bx,1,none⟩=some (.int .i64 xb):=Blk.cell HBX.out 1;have xl:=HBX.out.lt;have hii:(i:Int)<(n:Int):=by omega
          have hsum:IntKind.i64.wrap ((b0:Int)+(j:Int))=(b0:Int)+(j:Int):=by rw[IntKind.wrap_i64];omega
          have HCL:Hid (Calls Tryz.prog 113 #[.pointer (some ⟨mb,0,none⟩),.int .i64 i,.int .i64 ((b0:Int)+(j:Int)),.agg #[.int .i64 xa,.int .i64 xb]] w14.drew (ItmEnd w1 w3 w14.drew mb fb n n vv (.slice (some ⟨bL,oL,none⟩) n cL) rv tlv uv cv (.slice (some ⟨bb,ob,none⟩) n cb) g (Gz.bases L 0) ((List.replicate np 0).set 0 1++List.replicate (nq-np) 0) (FR.map (·.2)) i nq p2)):=Hd (by have h:=mitem_any HST.out HI.out.smallB (HIT2.out.later ((Below.refl _ w14).drew)).rebase (by rw[HFL.out];exact hlt) (by rw[HN.out];exact hlt) HXX.out.1 HXX.out.2 HE2.out HGR.out.1 HGR.out.2.1 HGR.out.2.2;rw[Int.natCast_add]at h;exact h)
          have HS14:Hid ((fun(v:World)=>v.cell? ⟨mb,9,none⟩=some (.slice (some ⟨bb,ob,none⟩) n cb)∧v.cell? ⟨bb,ob+i,none⟩=some (.int .i64 b0)∧v.cell? ⟨bx,0,none⟩=some (.int .i64 xa)∧v.cell? ⟨bx,1,none⟩=some (.int .i64 xb)) w14.drew):=Hd ⟨y9,hcb,x0,x1⟩;clear hcb y9 x0 x1 hbb
          go_region_held3 (fun(v:World)=>v.cell? ⟨mb,9,none⟩=some (.slice (some ⟨bb,ob,none⟩) n cb)∧v.cell? ⟨bb,ob+i,none⟩=some (.int .i64 b0)∧v.cell? ⟨bx,0,none⟩=some (.int .i64 xa)∧v.cell? ⟨bx,1,none⟩=some (.int .i64 xb))
           (first|exact HS14.out|exact HS15.out)
           (first|(
               go_at_call 113;refine HCL.out.mono ?_;rintro e w15 ⟨rfl,av5,ev5,P5,ED5,FR5,hit5⟩
               have HIT5:=Hd hit5;have HS15:Hid ((fun(v:World)=>v.cell? ⟨mb,9,none⟩=some (.slice (some ⟨bb,ob,none⟩) n cb)∧v.cell? ⟨bb,ob+i,none⟩=some (.int .i64 b0)∧v.cell? ⟨bx,0,none⟩=some (.int .i64 xa)∧v.cell? ⟨bx,1,none⟩=some (.int .i64 xb)) w15):=Hd (by
                obtain⟨⟨A',c',e1,hc⟩,-,-⟩:Nums w15 _ (Gz.bases L 0):=nums_own hit5.mk_.bas (by rw[bases_len,HN.out];omega);obtain⟨bb',ob',e2,hbb,hcb⟩:=hc i b0 HBB.out;subst e2;cases e1
                have hx:=hit5.keeps.blk HBX.out.drew (.inr (by decide));refine⟨?_,hcb,Blk.cell hx 0,Blk.cell hx 1⟩;obtain⟨x0,x1,x2,x3,rfl⟩:=hit5.mk_.vf;exact Blk.cell hit5.mk_.blk 9)
               clear hit5))
          go_wp2_with fail
          go_roundw
          case rel=>exact⟨j+1,av5,ev5,P5,ED5,FR5,p2,_,by omega,by go_num,HIT5,HES2⟩
          case measure=>simp[intOf];omega
        · obtain rfl:j=lk:=by omega
          have hqp:p=q:=by
           have h:=HES.out;rw[List.drop_of_length_le (by rw[HLK.out];exact leR _)]at h;unfold Gz.edgeState at h;cases h
           rfl
          subst hqp;go_wp2_with fail
          go_roundw
          case rel=>
           refine⟨i+1,p.1,av,ev,P,ED,FR2,F0++[p.2.1],by omega,by go_num,Hd ?_,Hd ⟨HIT.out.len,leT HP.out.2.1 HQB.out.1,by rw[lnA,HP.out.2.2.1];rfl,?_⟩,Hd ?_⟩
           ·have h:=HIT.out.mk_
            rw[HIT.out.len,List.append_assoc,List.replicate_append_replicate]at h;rw[show nq-np+(p.1-nq)=p.1-np by have:=HP.out.2.1;have:=HQB.out.1;omega]at h;exact h
           ·rw[HIT.out.rows,HP.out.2.2.2,show n-i=(n-(i+1))+1 by omega,set_mid _ _ _ _ _ HP.out.2.2.1]
           ·rw[HIT.out.eds]
            exact HE2.out
          case measure=>simp[intOf];omega
     · obtain rfl:n=i:=by omega
       have hE9:=HE.out;rw[List.drop_of_length_le (by rw[HN.out];exact leR _)]at hE9;unfold Gz.edgesAll at hE9;cases hE9
       have HS9:Hid ((List.replicate np 0).set 0 1++List.replicate (n0-np) 0=(List.replicate n0 0).set 0 1):=Hd (by rw[set0_app np (n0-np) hpos,show np+(n0-np)=n0 by have:=HP.out.2.1;omega])
       have HF9:Hid (FR.map (·.2)=FF):=Hd (by rw[HP.out.2.2.2,Nat.sub_self];simp);have HP9:=Hd HP.out.1;have HK9:=Hd HK.out;rw[HS9.out]at HK9;have HSP:=Hd (mspread_any HK9.out (by rw[HP9.out];exact HI.out.fit) HK9.out.vf (by rw[HP9.out];exact leT HI.out.few.1 (by decide)) (by have h:=HI.out.few.2.2;rw[lM]at h;exact h) HI.out.spread);have HFL9:=Hd HP.out.2.2.1;clear HP HS9 HK HE;go_wp2_with
        (
         go_at_call 114
         refine HSP.out.mono ?_;rintro e w20 ⟨rfl,hk20⟩;have HK20:=Hd hk20;clear hk20)
       clear HSP HK9 HK10;have HBE:Hid (∀y,Below w20.heap.size w20 y→Mk w1 w3 y mb fb n n vv (.slice AL n cL) rv tlv uv cv (.slice Ab n cb) av ev g (Gz.bases L 0) P A ED FR):=Hd (fun y hy=>HK20.out.later hy);have HLO2:Hid (∀y,Below w20.heap.size w20 y→∀j,j<n→Calls Tryz.prog 115 #[.pointer (some ⟨mb,0,none⟩),.int .i64 j] y (LooksEnd y (g.nt+1) (g.looksK A (g.endsAt (L.getD j []) ((Gz.bases L 0).getD j 0)++FF.getD j [])))):=Hd (fun y hy j hj=>by
        obtain⟨K,hK⟩:∃K,L[j]?=some K:=⟨_,eG (by rw[HN.out];exact hj)⟩
        have hKg:L.getD j []=K:=by rw[dG,hK];rfl
        have hFl:(FR.map (·.2)).length=n:=by rw[lM];exact HK20.out.fin.len
        obtain⟨⟨fv,F⟩,hF⟩:∃x,FR[j]?=some x:=⟨_,eG (by rw[←lM (f:=(·.2)),hFl];exact hj)⟩
        have hFf:FF[j]?=some F:=by rw[←HF9.out,pG,hF];rfl
        have hFg:FF.getD j []=F:=by rw[dG,hFf];rfl
        rw[hKg,hFg];obtain⟨hr1,hr2⟩:=HI.out.rules F (mG hFf);refine mlooks_any HST.out HI.out.smallB (HBE.out y hy) hK (HI.out.items K (mG hK)) hF (by rw[HP9.out];exact hr2) hr1 (by rw[HP9.out];exact HI.out.few.1) ?_;rw[HP9.out,dG,bases_get L 0 j K hK];have h1:=sumL_take hK;have h2:=sumL_le L (j+1);have h3:=(edgesAll_grows _ _ _ _ HI.out.edges).1;simp only[Option.getD_some]at h1 h2 h3 ⊢;omega)
       go_loopw [11,103] (fun ov jj wr=>∃(j:Nat) (Z:List (Value×List (Nat×Nat))),j≤n∧jj=.int .i64 j∧Hid (LksR w20 wr (g.nt+1) ov Z)∧Hid (Z.map (·.2)=(List.range j).map fun s=>g.looksK A (g.endsAt (L.getD s []) ((Gz.bases L 0).getD s 0)++FF.getD s []))) (fun ov jj _=>n-(intOf jj).toNat)
       case atStart=>exact⟨0,[],zeL _,rfl,Hd (LksR.start _ _),Hd rfl⟩
       case round=>
        rename World=>w21
        obtain⟨j,Z,hj,rfl,HZ,HZZ⟩:=hrel;obtain⟨Az,cz,hzv⟩:=own_shape2 HZ.out.row;subst hzv;have hzl:Z.length=j:=by have h:=congrArg List.length HZZ.out;simpa using h
        have HZL:=Hd hzl;rw[hzl];clear hzl;by_cases hlt:j<n
        · obtain⟨lj,hlj⟩:∃l,g.looksK A (g.endsAt (L.getD j []) ((Gz.bases L 0).getD j 0)++FF.getD j [])=l:=⟨_,rfl⟩
          have HLJ:=Hd (HLO2.out w21 HZ.out.below j hlt);rw[hlj]at HLJ;have HLE:=Hd hlj;clear hlj;obtain⟨ll,hll⟩:∃l,lj.length=l:=⟨_,rfl⟩
          unfold LooksEnd at HLJ;rw[hll]at HLJ;go_wp2_with (first
           | (
             go_at_call 115;refine HLJ.out.mono ?_;rintro e w22 ⟨A22,c22,Z22,rfl,hz22,hl22⟩
             have HB22:=Hd hl22.below;have hlz:Z22.length=ll:=by rw[←hll,←hz22,lM]
             have HL22:Hid (LkO w20.heap.size w22 (g.nt+1) (.slice A22 ll c22) lj):=Hd ⟨Z22,hz22,own_base (base':=w20.heap.size) hl22.row HZ.out.below.size,fun z hz=>own_base (base':=w20.heap.size) (hl22.own z hz) HZ.out.below.size⟩;have HB23:Hid (Below w21.heap.size w21 (w22.alloc (.cells #[.slice A22 ll c22] 76))):=Hd (hl22.below.alloc hl22.below.size _);clear hz22 hl22 hlz)
           | (
             at_builtin;refine wpList_app ElLooks (.tmp 106) (.tmp 110) rfl rfl (base:=w20.heap.size) (n:=j) (m:=1) (N:=j+1) (xs:=Z.map (·.1)) (news:=[.slice A22 ll c22]) rfl rfl (own_below (by have h:=HZ.out.row;rw[HZL.out]at h;exact h) HB23.out) (SrcOK.blk (c:=1) (cs:=[.slice A22 ll c22]) (Blk.new w22 76 _) rfl (by simp[Value.oneCell'])) rfl (by unfold maxLen;omega) (by omega) (by have h1:=HZ.out.below.size;have h2:=HB23.out.size;omega) ?_
             intro A24 c24 w24 q1 q2 q3;have HZN:Hid (LksR w20 w24 (g.nt+1) (.slice A24 (j+1) c24) (Z++[(.slice A22 ll c22,lj)])):=Hd (by have h:=(HZ.out.later HB23.out).more (tv:=.slice A22 ll c22) (l:=lj) (HL22.out.later (below_alloc1 w22 _)) (A:=A24) (c:=c24) (by rw[HZL.out];exact q1) q2;rw[HZL.out]at h;exact h)
             clear q1 q2 q3))
          go_roundw
          case rel=>exact⟨j+1,_,by omega,by go_num,HZN,Hd (by rw[mpA,HZZ.out,List.range_succ,mpA];simp only[List.map_cons,List.map_nil];rw[HLE.out])⟩
          case measure=>simp[intOf];omega
        · obtain rfl:n=j:=by omega
          go_wp2_with fail
          go_ret2
          refine⟨_,rfl,?_,?_⟩
          ·rw[looksAll_range g A L _ FF (bases_len _ _) (by rw[HFL9.out,HN.out]),HN.out,←HZZ.out,←HZL.out]
           have hnt:=HST.out.gn.fit.nt;have hnr:=HST.out.gn.fit.nr;refine HZ.out.lkso (by rw[HZL.out];omega) (fun z hz=>?_) (by omega) (leT HB1.out.size HK20.out.below.size);have hm:z.2∈Z.map (·.2):=List.mem_map_of_mem hz;rw[HZZ.out]at hm;obtain⟨k,hk,e⟩:=List.mem_map.1 hm;rw[←e];exact leT (looksK_len _ _ _) (by omega)
          ·have h1:=HB1.out
           have h2:=h1.trans (HK20.out.below.mono h1.size);exact h2.trans (HZ.out.below.mono h2.size)
theorem own_hi{X:Nat→Prop}{B:Nat}{w w':World}{e:TypeId}{s n:Nat}{v:Value}{xs:List Value}(h:w.ownsRow B e s v n xs)(hc:Chg X w w')(hX:∀b,B≤b→¬X b):w'.ownsRow B e s v n xs:=
 hc.own h (fun b hb=>hX b (by
  rcases own_form h with⟨e1,_⟩|⟨b',c,e1,h1,_⟩
  ·rw[e1]at hb;cases hb
  ·rw[e1]at hb;cases hb;exact h1))
theorem AutO.past{X:Nat→Prop}{B:Nat}{w w':World}{v:Value}{V:List (Value×Value)}{L E:List (List It)}(h:AutO B w v V L E)(hc:Chg X w w')(hX:∀b,B≤b→¬X b):Aut w' v V L E:=by
 have hr:=own_hi h.rows hc hX;obtain⟨⟨A,c,rfl,hcap,hcc⟩,h2,h3,h4,h5⟩:=h.aut;refine⟨⟨A,c,rfl,hcap,fun k x hx=>?_⟩,h2,fun k x l hx hl=>Prs.own (own_hi (h.items k x l hx hl) hc hX) (h3 k x l hx hl).short,fun k x l hx hl=>Prs.own (own_hi (h.trans k x l hx hl) hc hX) (h4 k x l hx hl).short,h5⟩;rcases own_form hr with⟨e1,e2⟩|⟨b,c',e1,h6,h7,_⟩
 ·have:=(sG.1 hx).1
  omega
 ·cases e1
  have:=st_cells hr hx;exact⟨b,0,rfl,h7,by simpa using this⟩
theorem LksO.past{X:Nat→Prop}{B m:Nat}{w w':World}{v:Value}{l:List (List (Nat×Nat))}(h:LksO B w m v l)(hm:m≤1000000)(hc:Chg X w w')(hX:∀b,B≤b→¬X b):LksL w' m v l:=by
 obtain⟨h1,Z,rfl,h2,h3⟩:=h;obtain⟨Ad,c,hv,hn,hz,hr⟩:=id h1;rw[lM]at hz hr;have hl:∀(k:Nat) (z:Value×List (Nat×Nat)),Z[k]?=some z→z.2.length≤1000000:=fun k z hk=>by
  obtain⟨b,off,_,_,_,hj⟩:=hr k (sG.1 hk).1;obtain⟨x,_,hx⟩:=hj 0 (by decide);have hg:(Z.map (·.2)).getD k []=z.2:=by rw[dG,pG,hk];rfl
  have hx2:LkL w m x ((Z.map (·.2)).getD k []):=hx;rw[hg]at hx2;obtain⟨_,_,_,_,h5,_⟩:=id hx2;exact h5
 have h4:=own_hi h2 hc hX;unfold LksL;rw[lM];rcases own_form h4 with⟨e1,e2⟩|⟨b,c,rfl,h5,h6,h7,_,cur,hb⟩
 ·exact⟨none,0,by rw[e1,e2],by omega,hz,fun k hk=>by omega⟩
 ·refine⟨_,c,rfl,h7,hz,fun k hk=>⟨b,0,rfl,h6,h6,fun j hj=>?_⟩⟩
  obtain⟨z,hzk⟩:∃z,Z[k]?=some z:=⟨_,eG hk⟩
  obtain rfl:j=0:=by omega
  have hg:(Z.map (·.2)).getD k []=z.2:=by rw[dG,pG,hzk];rfl
  refine⟨z.1,?_,?_⟩
  ·rw[Nat.zero_add,Nat.mul_one,Nat.add_zero,own_cell h4 k (by omega),pG,hzk];rfl
  ·show LkL w' m z.1 _
   rw[hg];obtain⟨Y,y1,y2,y3⟩:=h3 z (mG hzk);exact LkO.lkl (B:=B) ⟨Y,y1,own_hi y2 hc hX,fun y hy=>own_hi (y3 y hy) hc hX⟩ (hl k z hzk) hm
def MadeL(w:World)(v:Value)(g:Gz)(L E:List (List It))(K:List (List (Nat×Nat))):Prop:=∃lv lo V,v=.agg #[.int .i64 g.R.length,lv,lo]∧Aut w lv V L E∧LksL w (g.nt+1) lo K
theorem MadeL.later{w w':World}{v:Value}{g:Gz}{L E:List (List It)}{K:List (List (Nat×Nat))}(h:MadeL w v g L E K)(hb:Below w.heap.size w w'):MadeL w' v g L E K:=by obtain⟨lv,lo,V,h1,h2,h3⟩:=h;exact⟨lv,lo,V,h1,h2.later hb,h3.later hb⟩
set_option maxHeartbeats 4000000 in
theorem makes_any{w:World}{v:Value}{g:Gz}(hg:GN w v g){f f2 f3:Nat}{L E:List (List It)}(ha:g.autoI f=some (L,E)){Em:Nat}{C:List Nat}{T:List (List (Nat×Bool))}{CC:List (List Come)}{n0:Nat}{FF:List (List It)}{ed:List Edge}{A:List Nat}(hi:LkIn g L E f2 f3 Em C T CC n0 FF ed A) :
  Calls Tryz.prog 24 #[v] w fun e w'=>∃mv,e=.returned (.tuple #[mv,.int .i64 0])∧MadeL w' mv g L E (g.looksAll A L (Gz.bases L 0) FF)∧Below w.heap.size w w':=by
 have HBU:Hid (∀y,Below w.heap.size w y→Calls Tryz.prog 60 #[v] y fun e w'=>∃lv V,e=.returned (.tuple #[lv,.int .i64 0])∧AutO y.heap.size w' lv V L E∧Below y.heap.size y w'):=Hd (fun y hy=>build_own (hg.later hy) ha);have HLK:Hid (∀y,Below w.heap.size w y→Calls Tryz.prog 61 #[v] y (LookOfEnd y (g.nt+1) (g.looksAll A L (Gz.bases L 0) FF))):=Hd (fun y hy=>lookOf_any (hg.later hy) ha hi);obtain⟨AT,cT,AN,cN,AR,cR,rfl,-,-⟩:=hg.open_;have HGB:=Hd (Blk.new w 32 #[.slice AT g.nt cT,.slice AN g.nn cN,.slice AR g.R.length cR,.int .i64 g.s]);have HB0:=Hd (below_alloc w (.cells #[.slice AT g.nt cT,.slice AN g.nn cN,.slice AR g.R.length cR,.int .i64 g.s] 32))
 have HGB1:=Hd (HGB.out.alloc (.cells #[.int .i64 0,.slice none 0 0,.slice none 0 0] 60));have HMB1:=Hd (Blk.new (w.alloc (.cells #[.slice AT g.nt cT,.slice AN g.nn cN,.slice AR g.R.length cR,.int .i64 g.s] 32)) 60 #[.int .i64 0,.slice none 0 0,.slice none 0 0]);have HB1:=Hd (HB0.out.alloc HB0.out.size (.cells #[.int .i64 0,.slice none 0 0,.slice none 0 0] 60));have HNT:=Hd hg.fit.nt;clear hg ha hi;go_enter Tryz.func24,Tryz.ntmps24
 go_wp2_with (first
  | (
    go_at_call 60;refine(HBU.out _ HB1.out).mono ?_;rintro e w2 ⟨lv,V,rfl,hA,hb2⟩
    obtain⟨⟨AL,cL,hlv,-⟩,-⟩:=id hA.aut;subst hlv;have HA:=Hd hA;have HB2S:=Hd hb2.size;have HB2:=Hd (HB1.out.trans (hb2.mono HB1.out.size));have HG2:=Hd (HGB1.out.below hb2 HGB1.out.lt);have HM2:=Hd (HMB1.out.below hb2 HMB1.out.lt);have g0:=Blk.cell HG2.out 0;have g1:=Blk.cell HG2.out 1;have g2:=Blk.cell HG2.out 2;have g3:=Blk.cell HG2.out 3;simp at g0 g1 g2 g3;clear hA hb2)
  | (
    go_at_call 61;refine(HLK.out _ HB2.out).mono ?_;rintro e w3 ⟨lo,rfl,hl,hb3⟩
    obtain⟨Ao,co,hlo,-⟩:=id hl.1;subst hlo;have HL:=Hd hl;have HA3:=Hd (Chg.of_below (X:=fun _=>False) hb3);have HB3:=Hd (HB2.out.trans (hb3.mono HB2.out.size));have HM3:=Hd (HM2.out.below hb3 HM2.out.lt);have x0:=Blk.cell (HG2.out.below hb3 HG2.out.lt) 0;have x1:=Blk.cell (HG2.out.below hb3 HG2.out.lt) 1;have x2:=Blk.cell (HG2.out.below hb3 HG2.out.lt) 2;have x3:=Blk.cell (HG2.out.below hb3 HG2.out.lt) 3;simp at x0 x1 x2 x3;have m0:=Blk.cell HM3.out 0;have m1:=Blk.cell HM3.out 1;have m2:=Blk.cell HM3.out 2;have ml:=HM3.out.lt;have mf0:=Blk.frozen HM3.out 0;have mf1:=Blk.frozen HM3.out 1
    have mf2:=Blk.frozen HM3.out 2;simp at m0 m1 m2 ml mf0 mf1 mf2;clear hl hb3))
 (try simp only[Exit.inBlock,Exit.then])
 refine bodyPost_ret (v:=.tuple #[.agg #[.int .i64 g.R.length,.slice AL V.length cL,.slice Ao (g.looksAll A L (Gz.bases L 0) FF).length co],.int .i64 0]) ?_ rfl ?_
 ·rw[results_cell_tmp rfl]
  go_simp
 ·have HC:Hid (Chg (·=w.heap.size+1) w3 (((w3.setCell ⟨w.heap.size+1,0,none⟩ (.int .i64 g.R.length)).setCell ⟨w.heap.size+1,1,none⟩ (.slice AL V.length cL)).setCell ⟨w.heap.size+1,2,none⟩ (.slice Ao (g.looksAll A L (Gz.bases L 0) FF).length co))):=Hd (Chg.set (X:=(·=w.heap.size+1)) (Chg.set (X:=(·=w.heap.size+1)) (Chg.set (X:=(·=w.heap.size+1)) (Chg.refl _ w3) (p:=⟨w.heap.size+1,0,none⟩) (.inr rfl) _) (p:=⟨w.heap.size+1,1,none⟩) (.inr rfl) _) (p:=⟨w.heap.size+1,2,none⟩) (.inr rfl) _)
  refine⟨_,rfl,⟨_,_,V,rfl,?_,?_⟩,?_⟩
  ·refine HA.out.past ((HA3.out.mono (fun _ h=>h.elim)).next HC.out) (fun b hb e=>?_)
   simp at hb;omega
  ·refine HL.out.past (by have:=HNT.out;omega) HC.out (fun b hb e=>?_)
   have h2:=HB2S.out;simp at h2;omega
  ·exact HB3.out.trans ((HC.out.below (leT HB3.out.size (leR _)) (fun k hk e=>by omega)))
end Go.Proofs.YthaacmablcpdfaaGreatDoor
