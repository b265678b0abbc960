/- A place more. Where the making of edges stands. -/
import Derived.Test.YthaacmablcpdfaaGreatDoorZbk
import Derived.Test.YthaacmablcpdfaaGreatDoorZbe
import Derived.Deep.DeepCutAuto
import Derived.Test.YthaacmablcpdfaaGreatDoorZbl
import Derived.Test.YthaacmablcpdfaaGreatDoorZbi
import Derived.Test.YthaacmablcpdfaaGreatDoorNm
namespace Go.Proofs.YthaacmablcpdfaaGreatDoor
open Go.RowKit
set_option linter.unusedVariables false
set_option maxRecDepth 100000
section
variable {w1 w3 wr:World} {mb fb n c:Nat} {v lv rv tlv uv cv bv av ev:Value} {g:Gz} {base:List Nat} {P:List SetH} {S:List Nat} {ED:List (Option SetH×Edge)} {FR:List (Value×List It)}
def FreshEnd(w1 w3 wr:World)(mb fb n c:Nat)(v lv rv tlv uv cv bv ev:Value)(g:Gz)(base:List Nat)(P:List SetH)(S:List Nat)(ED:List (Option SetH×Edge))(FR:List (Value×List It))(e:Ending)(w':World):Prop:=
 e=.returned (.int .i64 P.length)∧∃av' t,Mk w1 w3 w' mb fb n c v lv rv tlv uv cv bv av' ev g base (P++[t]) (S++[0]) ED FR∧Keeps w1.heap.size [192,90] wr w'∧∀(q:Option SetH) (T:Nat),EdOk wr (g.nt+1) P q T→EdOk w' (g.nt+1) (P++[t]) q T
set_option maxHeartbeats 4000000 in
theorem mfresh_any(hgn:GN w1 v g)(h:Mk w1 w3 wr mb fb n c v lv rv tlv uv cv bv av ev g base P S ED FR)(hP:P.length≤1000000):Calls Tryz.prog 112 #[.pointer (some ⟨mb,0,none⟩)] wr (FreshEnd w1 w3 wr mb fb n c v lv rv tlv uv cv bv ev g base P S ED FR):=by
 have hnt:=hgn.fit.nt;obtain⟨AT,cT,AN,cN,AR,cR,rfl,-,-⟩:=hgn.open_;obtain⟨Aa,ca,hav⟩:∃A c,av=.slice A P.length c:=by
  rcases own_form h.all with⟨e1,e2⟩|⟨b,c,e,_⟩
  ·exact⟨none,0,by rw[e1,e2]⟩
  ·exact⟨_,c,e⟩
 subst hav;have HM:=Hd h;have z0:wr.cell? ⟨mb,0,none⟩=some (.slice AT g.nt cT):=Blk.cell h.blk 0;have z10:wr.cell? ⟨mb,10,none⟩=some (.slice Aa P.length ca):=Blk.cell h.blk 10;have ml:=h.blk.lt;have HW3:=Hd h.chg.size;have HNW:Hid (Calls Tryz.prog 84 #[.int .i64 ((g.nt:Int)+1)] wr.drew fun e w'=>e=.returned (.pointer (some ⟨wr.heap.size+1,0,none⟩))∧SetAt w' ⟨wr.heap.size+1,wr.heap.size,g.nt+1⟩ 0∧Below wr.heap.size wr w'):=Hd (by refine(new_any (w:=wr.drew) (n:=g.nt+1) (by omega) (by omega)).mono ?_;rintro e w' ⟨rfl,h1,h2⟩;exact⟨rfl,h1,((Below.refl _ wr).drew).trans h2⟩)
 obtain⟨np,hnp⟩:∃k,P.length=k:=⟨_,rfl⟩
 have HNP:=Hd hnp;rw[hnp]at z10 hP;have hi1:IntKind.i64.wrap ((g.nt:Int)+1)=(g.nt:Int)+1:=by rw[IntKind.wrap_i64];omega
 have HSB:Hid (∀Y,Below wr.heap.size wr Y→Y.cell? ⟨mb,10,none⟩=some (.slice Aa np ca)∧Y.cell? ⟨mb,0,none⟩=some (.slice AT g.nt cT)):=Hd (fun Y hy=>⟨(hy.cell (p:=⟨mb,10,none⟩) ml).trans z10,(hy.cell (p:=⟨mb,0,none⟩) ml).trans z0⟩);clear h hnp;unfold FreshEnd;go_enter Tryz.func112,Tryz.ntmps112
 go_upto_region 1 with fail
 refine wp_regionK 17 (fun(v:World)=>v.cell? ⟨mb,10,none⟩=some (.slice Aa np ca)∧v.cell? ⟨mb,0,none⟩=some (.slice AT g.nt cT)) (by kernel_rfl) ?_;have hHeld:(fun(v:World)=>v.cell? ⟨mb,10,none⟩=some (.slice Aa np ca)∧v.cell? ⟨mb,0,none⟩=some (.slice AT g.nt cT)) wr.drew:=⟨z10,z0⟩
 refine takeQ 0 hHeld ?_;simp only[setS,setZ];refine takeQ 1 hHeld ?_;simp only[setS,setZ];refine takeQ 2 hHeld ?_;simp only[setS,setZ];refine takeQ 3 hHeld ?_;simp only[setS,setZ];refine takeQ 4 hHeld ?_;simp only[setS,setZ];refine takeQ 5 hHeld ?_;simp only[setS,setZ];refine takeQ 6 hHeld ?_;simp only[setS,setZ];refine takeQ 7 hHeld ?_;simp only[setS,setZ];refine takeQ 8 hHeld ?_;simp only[setS,setZ];refine takeQ 9 hHeld ?_;simp only[setS,setZ];refine takeQ 10 hHeld ?_;simp only[setS,setZ];refine takeQ 11 hHeld ?_;simp only[setS,setZ];refine nextK 12 (by kernel_rfl) rfl rfl (fun K hK=>?_);go_simp
 refine HNW.out.mono ?_;rintro e w2 ⟨rfl,hs2,hb2⟩;have HS2:=Hd hs2;have HB2:=Hd hb2;have HB2A:Hid (Below wr.heap.size wr (w2.alloc (.cells #[.pointer (some ⟨wr.heap.size+1,0,none⟩)] 90))):=Hd (hb2.alloc hb2.size _);clear hs2 hb2;refine hK.out _ _ (fun _=>HSB.out w2 HB2.out) ?_;clear hK K hHeld;refine nextK 13 (by kernel_rfl) rfl rfl (fun K hK=>?_);go_simp;refine hK.out _ _ (fun _=>HSB.out _ HB2A.out) ?_;clear hK K;refine nextKv 14 (by kernel_rfl) rfl rfl rfl (fun K hK=>?_);refine wp_app ElSet (.tmp 7) (.tmp 16) rfl (base:=w3.heap.size) (n:=np) (m:=1) (N:=np+1) (v:=.slice Aa np ca) (src:=.slice (some ⟨w2.heap.size,0,none⟩) 1 1) (xs:=P.map SetH.v) (news:=[.pointer (some ⟨wr.heap.size+1,0,none⟩)]) rfl rfl (own_below (by have h:=HM.out.all;rw[HNP.out]at h;exact h) HB2A.out) (SrcOK.blk (c:=1) (cs:=[.pointer (some ⟨wr.heap.size+1,0,none⟩)]) (Blk.new w2 90 _) rfl (by simp[Value.oneCell'])) rfl (by unfold maxLen;omega) (by omega) (by have:=HW3.out;have:=HB2A.out.size;omega) ?_
 intro A4 c4 w4 q1 q2 q3;have HM4:Hid (Blk w4 mb 192 _):=Hd (q2.blk (HM.out.blk.below HB2A.out HM.out.blk.lt) (.inr (by decide)));have y0:w4.cell? ⟨mb,0,none⟩=some (.slice AT g.nt cT):=Blk.cell HM4.out 0;have y10:w4.cell? ⟨mb,10,none⟩=some (.slice Aa P.length ca):=Blk.cell HM4.out 10;rw[HNP.out]at y10;have yf:=Blk.frozen HM4.out 10;have yl:=HM4.out.lt;have HFR:=Hd (HM.out.freshed (W:=w2.alloc (.cells #[.pointer (some ⟨wr.heap.size+1,0,none⟩)] 90)) HB2A.out (t:=⟨wr.heap.size+1,wr.heap.size,g.nt+1⟩) (HS2.out.later (below_alloc w2 _)) rfl ⟨by simp,leR _⟩ (A:=A4) (c2:=c4) (by rw[HNP.out];exact q1) q2)
 rw[HNP.out]at HFR;clear q1 q2 q3;refine hK.out _ _ (fun _=>⟨y10,y0⟩) ?_;clear hK K;simp only[List.set_cons_succ,List.set_cons_zero];refine nextK 15 (by kernel_rfl) rfl rfl (fun K hK=>?_);go_simp;refine hK.out _ _ (fun _=>⟨y10,y0⟩) ?_;clear hK K;refine nextK 16 (by kernel_rfl) rfl rfl (fun K hK=>?_);go_simp;refine hK.out _ _ (fun _=>⟨y10,y0⟩) ?_;clear hK K;refine nextK 17 (by kernel_rfl) rfl rfl (fun K hK=>?_);go_simp;refine hK.out _ _ (fun h=>absurd rfl h) ?_;clear hK K;refine doneK (by kernel_rfl) ?_ _;have HMX:=Hd HFR.out.1;have y10b:(w4.setCell ⟨mb,10,none⟩ (.slice A4 (np+1) c4)).cell? ⟨mb,10,none⟩=some (.slice A4 (np+1) c4):=Blk.cell HMX.out.blk 10
 have hi2:IntKind.i64.wrap ((np:Int)+1-1)=(np:Int):=by rw[IntKind.wrap_i64];omega
 go_wp2_with fail
 go_ret;exact⟨ret_nat HNP.out.symm,_,_,HFR.out⟩
theorem find_first{F:List It}{i k:Nat}{x:It}(hx:F[i]?=some x)(hk:x.1=k)(hb:∀j,j<i→∀y,F[j]?=some y→y.1≠k):F.find? (fun f=>f.1==k)=some x:=by rw[List.find?_eq_some_iff_getElem];obtain⟨h1,h2⟩:=sG.1 hx;refine⟨by simp[hk],i,h1,h2,fun j hj=>?_⟩;have:=hb j hj _ (eG (by omega));simp[this]
theorem find_none{F:List It}{k:Nat}(hb:∀j,j<F.length→∀y,F[j]?=some y→y.1≠k):F.find? (fun f=>f.1==k)=none:=by rw[List.find?_eq_none];intro y hy;obtain⟨j,hj,e⟩:=List.mem_iff_getElem.1 hy;have:=hb j hj y (by rw[eG hj,e]);simp[this]
theorem set_get_same{α:Type}(l:List α)(i:Nat)(x:α)(h:l[i]?=some x):l.set i x=l:=by obtain⟨h1,h2⟩:=sG.1 h;rw[←h2];exact List.set_getElem_self h1
def EndEnd(w1 w3 wr:World)(mb fb n c:Nat)(v lv rv tlv uv cv bv ev:Value)(g:Gz)(base:List Nat)(P:List SetH)(S:List Nat)(ED:List (Option SetH×Edge))(FR:List (Value×List It))(s:Nat)(r:Nat×Nat×List It)(e:Ending)(w':World):Prop:=
 e=.returned (.int .i64 r.1)∧∃av' P' FR',Mk w1 w3 w' mb fb n c v lv rv tlv uv cv bv av' ev g base P' (S++List.replicate (P'.length-P.length) 0) ED FR'∧P'.length=r.2.1∧FR'.map (·.2)=(FR.map (·.2)).set s r.2.2∧Keeps w1.heap.size [192,90,246,248] wr w'∧∀(q:Option SetH) (T:Nat),EdOk wr (g.nt+1) P q T→EdOk w' (g.nt+1) P' q T
set_option maxHeartbeats 4000000 in
theorem mend_any(hgn:GN w1 v g)(h:Mk w1 w3 wr mb fb n c v lv rv tlv uv cv bv av ev g base P S ED FR)(hP:P.length≤100000){s k:Nat}{fv:Value}{F:List It}(hy:FR[s]?=some (fv,F))(hF:F.length≤100000):Calls Tryz.prog 158 #[.pointer (some ⟨mb,0,none⟩),.int .i64 s,.int .i64 k] wr (EndEnd w1 w3 wr mb fb n c v lv rv tlv uv cv bv ev g base P S ED FR s (Gz.endL P.length F k)):=by
 have hs:s<n:=by have h1:=(sG.1 hy).1;have h2:=h.fin.len;omega
 obtain⟨Af,cf,hfv⟩:∃A c,fv=.slice A F.length c:=by
  rcases own_form (h.fin.own s _ hy) with⟨e1,e2⟩|⟨b,c,e,_⟩
  ·have e1':fv=.slice none 0 0:=e1
   have e2':F.length=0:=e2;exact⟨none,0,by rw[e1',e2']⟩
  ·exact⟨_,c,e⟩
 subst hfv;have HM:=Hd h;have HY:=Hd hy;have HPR:Hid (Prs wr (.slice Af F.length cf) F):=Hd (Prs.own (h.fin.own s _ hy) (by omega));have z12:wr.cell? ⟨mb,12,none⟩=some (.slice (some ⟨fb,0,none⟩) n c):=by obtain⟨x0,x1,x2,x3,rfl⟩:=h.vf;exact Blk.cell h.blk 12
 have zf:wr.cell? ⟨fb,s,none⟩=some (.slice Af F.length cf):=by rw[own_cell h.fin.row s (by omega),pG,hy];rfl
 have ml:=h.blk.lt;have fl:=(own_lt h.fin.row fb rfl).1;have hsn:(s:Int)<(n:Int):=by omega
 have HHY:=Hd hgn;have HEP:Hid (P.length≤100000):=Hd hP;obtain⟨lf,hlf⟩:∃l,F.length=l:=⟨_,rfl⟩
 have HLF:=Hd hlf;have HZ:Hid (∀Y,Below wr.heap.size wr Y→Y.cell? ⟨mb,12,none⟩=some (.slice (some ⟨fb,0,none⟩) n c)∧Y.cell? ⟨fb,s,none⟩=some (.slice Af lf cf)):=Hd (fun Y hy=>⟨(hy.cell (p:=⟨mb,12,none⟩) ml).trans z12,by rw[←hlf];exact(hy.cell (p:=⟨fb,s,none⟩) fl).trans zf⟩);rw[hlf]at zf HPR hF;clear h hgn hy hP hlf hs;go_enter Tryz.func158,Tryz.ntmps158
 go_wp2_with fail
 go_loopw [18] (fun ii w'=>∃i:Nat,i≤lf∧ii=.int .i64 i∧Hid (Below wr.heap.size wr w')∧Hid (∀j,j<i→∀y,F[j]?=some y→y.1≠k)) (fun ii _=>lf-(intOf ii).toNat)
 case atStart=>exact⟨0,zeL _,rfl,Hd (Below.refl _ _),Hd (fun j hj=>by omega)⟩
 case round=>
  obtain⟨i,hi,rfl,HB,HN⟩:=hrel;rename World=>w8
  by_cases hlt:i<lf
  ·obtain⟨⟨xa,xb⟩,hx⟩:∃x,F[i]?=some x:=⟨_,eG (by rw[HLF.out];exact hlt)⟩
   obtain⟨⟨A',c',e,hc⟩,-,-⟩:=HPR.out.later HB.out;have e2:Af=A':=by cases e;rfl
   subst e2;obtain⟨b,off,rfl,hb,d0,d1⟩:=hc i _ hx;simp only at d0 d1;have HX:=Hd hx;clear hc e hx;by_cases hk:xa=k
   ·have hq1:((xa:Int)==(k:Int))=true:=by rw[hk];simp
    have HK:=Hd hk;clear hk;go_wp2_with fail
    go_ret;have hfd:=find_first HX.out (by exact HK.out) HN.out;have hM:=HM.out.later (HB.out.trans ((below_alloc w8 (.cells #[.int .i64 xa,.int .i64 xb] 248)).mono HB.out.size));unfold EndEnd Gz.endL;rw[hfd];refine⟨rfl,av,P,FR,?_,rfl,?_,Keeps.of_below (HB.out.trans ((below_alloc w8 _).mono HB.out.size)),fun q T hq=>hq.later (HB.out.trans ((below_alloc w8 _).mono HB.out.size))⟩
    ·rw[Nat.sub_self,List.replicate_zero,List.append_nil]
     exact hM
    ·exact(set_get_same _ s F (by rw[pG,HY.out];rfl)).symm
   ·have hq1:((xa:Int)==(k:Int))=false:=by rw[bN];omega
    have HK:=Hd hk;clear hk;go_wp2_with fail
    go_roundw
    case rel=>exact⟨i+1,by omega,by go_num,Hd (HB.out.trans ((below_alloc w8 _).mono HB.out.size)),Hd (fun j hj y hy=>by
     by_cases hji:j=i
     ·subst hji
      rw[HX.out]at hy;cases hy
      exact HK.out
     ·exact HN.out j (by omega) y hy)⟩
    case measure=>simp[intOf];omega
  ·obtain rfl:i=lf:=by omega
   have HFD:Hid (Gz.endL P.length F k=(P.length,P.length+1,F++[(k,P.length)])):=Hd (by unfold Gz.endL;rw[find_none (by rw[HLF.out];exact HN.out)])
   have HF8:=Hd (mfresh_any HHY.out (HM.out.later HB.out) (by have:=HEP.out;omega));unfold FreshEnd at HF8;obtain⟨np,hnp⟩:∃k,P.length=k:=⟨_,rfl⟩
   have HNP:=Hd hnp;rw[hnp]at HF8;clear hnp;go_upto_region 8 with(
       go_at_call 112;refine HF8.out.mono ?_;rintro e w9 ⟨rfl,av9,t,hm9,hk9,he9⟩
       have HM9:=Hd hm9;have HK9:=Hd hk9;have HE9:=Hd he9;clear hm9 hk9 he9)
   have z12b:w9.cell? ⟨mb,12,none⟩=some (.slice (some ⟨fb,0,none⟩) n c):=by obtain⟨x0,x1,x2,x3,rfl⟩:=HM9.out.vf;exact Blk.cell HM9.out.blk 12
   have zfb:w9.cell? ⟨fb,s,none⟩=some (.slice Af i cf):=by rw[own_cell HM9.out.fin.row s (by omega),pG,HY.out,←HLF.out];rfl
   have ml9:=HM9.out.blk.lt;have fl9:=(own_lt HM9.out.fin.row fb rfl).1;have HROW:Hid (w9.ownsRow w3.heap.size 248 2 (.slice Af i cf) i (F.flatMap itC)):=Hd (by have h:=HM9.out.fin.own s _ HY.out;simp only at h;rw[HLF.out]at h;exact h);have HSB:Hid (∀Y,Below w9.heap.size w9 Y→Y.cell? ⟨mb,12,none⟩=some (.slice (some ⟨fb,0,none⟩) n c)∧Y.cell? ⟨fb,s,none⟩=some (.slice Af i cf)):=Hd (fun Y hy=>⟨(hy.cell (p:=⟨mb,12,none⟩) ml9).trans z12b,(hy.cell (p:=⟨fb,s,none⟩) fl9).trans zfb⟩);have HW3:=Hd HM9.out.chg.size;have hsn9:s<n:=by omega
   clear z12 zf ml fl;refine wp_regionK 18 (fun(v:World)=>v.cell? ⟨mb,12,none⟩=some (.slice (some ⟨fb,0,none⟩) n c)∧v.cell? ⟨fb,s,none⟩=some (.slice Af i cf)) (by kernel_rfl) ?_;have hHeld:(fun(v:World)=>v.cell? ⟨mb,12,none⟩=some (.slice (some ⟨fb,0,none⟩) n c)∧v.cell? ⟨fb,s,none⟩=some (.slice Af i cf)) w9.drew:=⟨z12b,zfb⟩
   refine takeQ 0 hHeld ?_;simp only[setS,setZ];refine takeQ 1 hHeld ?_;simp only[setS,setZ];refine takeQ 2 hHeld ?_;simp only[setS,setZ];refine takeQ 3 hHeld ?_;simp only[setS,setZ];refine takeQ 4 hHeld ?_;simp only[setS,setZ];refine takeQ 5 hHeld ?_;simp only[setS,setZ];refine takeQ 6 hHeld ?_;simp only[setS,setZ];refine takeQ 7 hHeld ?_;simp only[setS,setZ];refine takeQ 8 hHeld ?_;simp only[setS,setZ];refine takeQ 9 hHeld ?_;simp only[setS,setZ];refine takeQ 10 hHeld ?_;simp only[setS,setZ];refine takeQ 11 hHeld ?_;simp only[setS,setZ];refine takeQ 12 hHeld ?_;simp only[setS,setZ];refine takeQ 13 hHeld ?_;simp only[setS,setZ]
   refine takeQ 14 hHeld ?_;simp only[setS,setZ];refine nextK 15 (by kernel_rfl) rfl rfl (fun K hK=>?_);go_simp;refine hK.out _ _ (fun _=>?_) ?_
   ·exact HSB.out _ (((Below.refl _ w9).alloc (leR _) _).drew)
   clear hK K hHeld;refine nextKv 16 (by kernel_rfl) rfl rfl rfl (fun K hK=>?_);refine wp_app ElFinal (.tmp 42) (.tmp 46) rfl (base:=w3.heap.size) (n:=i) (m:=1) (N:=i+1) (v:=.slice Af i cf) (src:=.slice (some ⟨w9.heap.size,0,none⟩) 1 1) (xs:=F.flatMap itC) (news:=itC (k,np)) rfl rfl (own_below (HROW.out.alloc _) ((Below.refl _ _).drew)) (SrcOK.blk (c:=1) (cs:=itC (k,np)) (Blk.drew (Blk.new w9 248 _)) rfl (fun u hu=>by unfold itC at hu;simp at hu;rcases hu with rfl|rfl<;>rfl)) rfl (by unfold maxLen;omega) (by omega) (by have:=HW3.out;simp;omega) ?_;intro A7 c7 w7 q1 q2 q3;have HFIN:=Hd (HM9.out.ended (((Below.refl _ w9).alloc (leR _) (.cells #[.int .i64 k,.int .i64 np] 248)).drew) HY.out (x:=(k,np)) (A:=A7) (c2:=c7) (by simp only[HLF.out];exact q1) q2 (by simp only[HLF.out];exact q3))
   simp only[HLF.out]at HFIN;have HO7:Hid (w7.ownsRow w1.heap.size 246 1 (.slice (some ⟨fb,0,none⟩) n c) n (FR.map (·.1))):=Hd (q2.own (own_below (HM9.out.fin.row.alloc _) ((Below.refl _ _).drew)) (.inr (by decide)));have zfb_:w7.cell? ⟨fb,s,none⟩=some (.slice Af i cf):=by rw[own_cell HO7.out s (by omega),pG,HY.out,←HLF.out];rfl
   have ffb_:=own_frozen HO7.out s;have lfb_:=(own_lt HO7.out fb rfl).1;have HMB7:Hid (Blk w7 mb 192 _):=Hd (q2.blk (Blk.drew (HM9.out.blk.alloc _)) (.inr (by decide)));have z12_:w7.cell? ⟨mb,12,none⟩=some (.slice (some ⟨fb,0,none⟩) n c):=by have h:=HMB7.out;obtain⟨x0,x1,x2,x3,e⟩:=HM9.out.vf;rw[e]at h;exact Blk.cell h 12
   have HK7:Hid (Keeps w1.heap.size [248,246] ((w9.alloc (.cells #[.int .i64 k,.int .i64 np] 248)).drew) (w7.setCell ⟨fb,s,none⟩ (.slice A7 (i+1) c7))):=Hd (by obtain⟨curf,hcurf⟩:=HM9.out.fin.blk;have hf7:=q2.blk (Blk.drew (hcurf.alloc (.cells #[.int .i64 k,.int .i64 np] 248))) (.inr (by decide));exact(q2.mono HM9.out.lo.2.2 (fun t ht=>by simp at ht;simp[ht])).trans (((Keeps.refl w1.heap.size [248,246] w7).setBlk hf7 HM9.out.lo.2.1 (by simp) s _)))
   clear q1 q2 q3;refine hK.out _ _ (fun _=>⟨z12_,zfb_⟩) ?_;clear hK K;simp only[List.set_cons_succ,List.set_cons_zero];have hHeld:(fun(v:World)=>v.cell? ⟨mb,12,none⟩=some (.slice (some ⟨fb,0,none⟩) n c)∧v.cell? ⟨fb,s,none⟩=some (.slice Af i cf)) w7:=⟨z12_,zfb_⟩
   refine takeQ 17 hHeld ?_;simp only[setS,setZ];clear hHeld;refine nextK 18 (by kernel_rfl) rfl rfl (fun K hK=>?_);go_simp;refine hK.out _ _ (fun h=>absurd rfl h) ?_;clear hK K;refine doneK (by kernel_rfl) ?_ _;go_wp2_with fail
   go_ret;unfold EndEnd;rw[HNP.out]at HFD;rw[HNP.out,HFD.out];refine⟨rfl,av9,P++[t],FR.set s (.slice A7 (i+1) c7,F++[(k,np)]),?_,?_,?_,(Keeps.of_below HB.out).trans ((HK9.out.mono (T':=[192,90,246,248]) (leR _) (fun t ht=>by simp at ht;rcases ht with rfl|rfl<;>decide)).trans (HFIN.out.2.mono (T':=[192,90,246,248]) (leR _) (fun t ht=>by simp at ht;rcases ht with rfl|rfl<;>decide))),fun q T hq=>?_⟩
   ·have hM:=HFIN.out.1
    have e:S++List.replicate ((P++[t]).length-np) 0=S++[0]:=by rw[lnA,HNP.out,List.length_singleton,Nat.add_sub_cancel_left];rfl
    rw[e];exact hM
   ·simp[HNP.out]
   ·rw[List.map_set]
   ·exact((HE9.out q T (hq.later HB.out)).later (((Below.refl _ w9).alloc (leR _) (.cells #[.int .i64 k,.int .i64 np] 248)).drew)).keeps (HK7.out) (by decide) (by decide)
end
structure Stc(w1 w3:World)(mb fb:Nat)(v lv rv tlv uv cv:Value)(g:Gz)(V:List (Value×Value))(L E:List (List It))(T:List (List (Nat×Bool)))(CC:List (List Come)):Prop where
 gn:GN w1 v g
 aut:Aut w1 lv V L E
 rts:RtsA (Sx mb fb w3.heap.size) w3 rv (g.R.length+1) g.right
 tls:TlsA (Sx mb fb w3.heap.size) w3 (g.nt+1) tlv (g.R.length+1) T
 rls:RtsA (Sx mb fb w3.heap.size) w3 uv (g.top+1) g.ofL
 cms:CmsA (Sx mb fb w3.heap.size) w3 (g.nt+1) cv (g.top+1) CC
 tlen:∀k,k≤g.R.length→(T.getD k []).length=(g.right k).length
 cle:∀l∈CC,∀c∈l,c.s≤g.top
 clen:CC.length=g.top+1
theorem handC_s(xs:Bool)(xset:Nat)(c:Come)(own:Bool)(t:Nat×Bool):(handC xs xset c own t).1.s=c.s:=by
 unfold handC;split
 ·rfl
 ·split
  ·rfl
  ·split<;>rfl
theorem comeRule_le{g:Gz}(hf:g.Fit){T:List (List (Nat×Bool))}{i:Nat}{xs:Bool}{p:List Come×List Nat}{k:Nat}(h:∀c∈p.1,c.s≤g.top):∀c∈(g.comeRule T i xs p k).1,c.s≤g.top:=by
 unfold Gz.comeRule;split
 ·exact h
 ·rename_i y r hr
  have hy:y≤g.top:=hf.right_le (k:=k) (by rw[hr];simp);split
  ·exact h
  ·split
   ·rename_i j hj
    intro c hc;rcases List.mem_or_eq_of_mem_set hc with h1|h1
    ·exact h c h1
    ·rw[h1,handC_s]
     rw[dG];cases hq:p.1[j]? with
     | none=>exact zeL _
     | some d=>exact h d (mG hq)
   ·intro c hc
    rcases mA.1 hc with h1|h1
    ·exact h c h1
    ·rw[mS.1 h1,handC_s]
     exact hy
theorem comeFold_le{g:Gz}(hf:g.Fit){T:List (List (Nat×Bool))}{i:Nat}{xs:Bool}:∀(l:List Nat) (p:List Come×List Nat),(∀c∈p.1,c.s≤g.top)→∀c∈(l.foldl (g.comeRule T i xs) p).1,c.s≤g.top
 | [],p,h=>h
 | k::l,p,h=>comeFold_le hf l _ (comeRule_le hf h)
theorem comeLoop_le{g:Gz}(hf:g.Fit){T:List (List (Nat×Bool))}:∀(f:Nat) (out:List Come) (todo:List Nat) (r:List Come),(∀c∈out,c.s≤g.top)→g.comeLoop T f out todo=some r→∀c∈r,c.s≤g.top
 | 0,out,todo,r,_,hr=>by simp[Gz.comeLoop]at hr
 | f+1,out,[],r,h,hr=>by
  unfold Gz.comeLoop at hr;cases hr
  exact h
 | f+1,out,i::todo,r,h,hr=>by
  unfold Gz.comeLoop at hr;split at hr
  ·cases hr
  ·exact comeLoop_le hf f _ _ r (comeFold_le hf _ _ h) hr
theorem comesTo_le{g:Gz}(hf:g.Fit){T:List (List (Nat×Bool))}:∀(N:Nat) (CC:List (List Come)),N≤g.top+1→g.comesTo T N=some CC→∀l∈CC,∀c∈l,c.s≤g.top
 | 0,CC,_,h=>by
  unfold Gz.comesTo at h;cases h
  intro l hl;cases hl
 | N+1,CC,hN,h=>by
  unfold Gz.comesTo at h;cases hq:g.comesTo T N with
  | none=>rw[hq]at h;cases h
  | some l0=>
   rw[hq]at h;have ih:=comesTo_le hf N l0 (by omega) hq;simp only at h;intro l hl;split at h
   ·cases h
    rcases mA.1 hl with h1|h1
    ·exact ih l h1
    ·rw[mS.1 h1]
     intro c hc;cases hc
   ·split at h
    ·cases h
    ·rename_i r hr
     cases h
     rcases mA.1 hl with h1|h1
     ·exact ih l h1
     ·rw[mS.1 h1]
      exact comeLoop_le hf _ _ _ r (fun c hc=>by rw[mS.1 hc];simp only;omega) hr
def Grows(p q:Gz.Eds):Prop:=p.1≤q.1∧p.2.1.length≤q.2.1.length∧p.2.2.length≤q.2.2.length
theorem Grows.refl(p:Gz.Eds):Grows p p:=⟨leR _,leR _,leR _⟩
theorem Grows.trans{p q r:Gz.Eds}(h:Grows p q)(k:Grows q r):Grows p r:=⟨leT h.1 k.1,leT h.2.1 k.2.1,leT h.2.2 k.2.2⟩
theorem endL_grows(n:Nat)(F:List It)(k:Nat):n≤(Gz.endL n F k).2.1∧F.length≤(Gz.endL n F k).2.2.length:=by
 unfold Gz.endL;split
 ·exact⟨leR _,leR _⟩
 ·exact⟨Nat.le_succ _,by simp⟩
theorem edgeRules_grows{g:Gz}{L E:List (List It)}{base:List Nat}{st at_ SS:Nat}{self none_:Bool}:∀(l:List Nat) (p q:Gz.Eds),g.edgeRules L E base st at_ SS self none_ l p=some q→Grows p q
 | [],p,q,h=>by
  unfold Gz.edgeRules at h;cases h
  exact Grows.refl _
 | k::l,p,q,h=>by
  unfold Gz.edgeRules at h;split at h
  ·refine Grows.trans ?_ (edgeRules_grows l _ q h)
   obtain⟨h1,h2⟩:=endL_grows p.1 p.2.1 k;refine⟨h1,h2,?_⟩;show p.2.2.length≤(if none_=true then p.2.2 else _).length;split
   ·exact leR _
   ·simp
  ·split at h
   ·cases h
   ·refine Grows.trans ?_ (edgeRules_grows l _ q h)
    refine⟨leR _,leR _,?_⟩;show p.2.2.length≤(if none_=true then p.2.2 else _).length;split
    ·exact leR _
    ·simp
theorem edgeComes_grows{g:Gz}{L E:List (List It)}{base:List Nat}{st at_:Nat}{t:Nat×Bool}:∀(l:List Come) (p q:Gz.Eds),g.edgeComes L E base st at_ t l p=some q→Grows p q
 | [],p,q,h=>by
  unfold Gz.edgeComes at h;cases h
  exact Grows.refl _
 | c::l,p,q,h=>by
  unfold Gz.edgeComes at h;split at h
  ·cases h
  ·rename_i q1 h1
   exact(edgeRules_grows _ _ _ h1).trans (edgeComes_grows l _ q h)
theorem edgeItem_grows{g:Gz}{L E:List (List It)}{base:List Nat}{T:List (List (Nat×Bool))}{CC:List (List Come)}{st at_:Nat}{x:It}{p q:Gz.Eds}(h:g.edgeItem L E base T CC st at_ x p=some q):Grows p q:=by
 unfold Gz.edgeItem at h;split at h
 ·cases h;exact Grows.refl _
 ·split at h
  ·cases h
  ·split at h
   ·refine Grows.trans ?_ (edgeComes_grows _ _ _ h)
    exact⟨leR _,leR _,by simp⟩
   ·cases h
    exact⟨leR _,leR _,by simp⟩
theorem edgeState_grows{g:Gz}{L E:List (List It)}{base:List Nat}{T:List (List (Nat×Bool))}{CC:List (List Come)}{st:Nat}:∀(l:List It) (a:Nat) (p q:Gz.Eds),g.edgeState L E base T CC st l a p=some q→Grows p q
 | [],a,p,q,h=>by
  unfold Gz.edgeState at h;cases h
  exact Grows.refl _
 | x::l,a,p,q,h=>by
  unfold Gz.edgeState at h;split at h
  ·cases h
  ·rename_i q1 h1
   exact(edgeItem_grows h1).trans (edgeState_grows l _ _ q h)
def Small(L:List (List It))(base:List Nat):Prop:=base.length=L.length∧(∀b∈base,b≤100000)∧∀l∈L,l.length≤100000
theorem placeL_le{L:List (List It)}{base:List Nat}(hs:Small L base){i:Nat}{x:It}{r:Nat}(h:Gz.placeL L base i x=some r):r≤1000000:=by
 have hi:=placeL_lt h;unfold Gz.placeL at h;obtain⟨j,hj,rfl⟩:=Option.map_eq_some_iff.1 h;obtain⟨h1,h2,h3⟩:=hs;have hb:base.getD i 0≤100000:=by
  rw[dG];cases hq:base[i]? with
  | none=>exact zeL _
  | some b=>exact h2 b (mG hq)
 have hl:(L.getD i []).length≤100000:=by rw[dG,eG hi];exact h3 _ (List.getElem_mem hi)
 have:=(sG.1 (find_at hj).1).1;omega
theorem toL_le{g:Gz}{L E:List (List It)}{base:List Nat}(hs:Small L base){i:Nat}{x:It}{r:Nat}(h:g.toL L E base i x=some r):r≤1000000:=by
 unfold Gz.toL at h;split at h
 ·cases h
 ·exact placeL_le hs h
def TT:List TypeId:=[192,90,246,248,240]
structure Itm(w1 w3 w0 wr:World)(mb fb n c:Nat)(v lv rv tlv uv cv bv av ev:Value)(g:Gz)(base:List Nat)(P:List SetH)(S:List Nat)(ED:List (Option SetH×Edge))(FR:List (Value×List It))(FR0:List (List It))(st n0:Nat)(p:Gz.Eds):Prop where
 mk_:Mk w1 w3 wr mb fb n c v lv rv tlv uv cv bv av ev g base P (S++List.replicate (P.length-n0) 0) ED FR
 len:P.length=p.1
 row:∃fv,FR[st]?=some (fv,p.2.1)
 rows:FR.map (·.2)=FR0.set st p.2.1
 eds:ED.map (·.2)=p.2.2
 keeps:Keeps w1.heap.size TT w0 wr
 ge:n0≤p.1
section
variable {w1 w3 w0 wr w2 W W2:World} {mb fb n c:Nat} {v lv rv tlv uv cv bv av ev:Value} {g:Gz} {base:List Nat} {P:List SetH} {S:List Nat} {ED:List (Option SetH×Edge)} {FR:List (Value×List It)} {FR0:List (List It)} {st n0:Nat} {p:Gz.Eds}
theorem Itm.later(h:Itm w1 w3 w0 wr mb fb n c v lv rv tlv uv cv bv av ev g base P S ED FR FR0 st n0 p)(hb:Below wr.heap.size wr w2):Itm w1 w3 w0 w2 mb fb n c v lv rv tlv uv cv bv av ev g base P S ED FR FR0 st n0 p:=
 ⟨h.mk_.later hb,h.len,h.row,h.rows,h.eds,h.keeps.trans (Keeps.of_below hb),h.ge⟩
theorem Itm.edged(h:Itm w1 w3 w0 wr mb fb n c v lv rv tlv uv cv bv av ev g base P S ED FR FR0 st n0 p)(hb:Below wr.heap.size wr W){x:Option SetH×Edge}(hx:EdOk wr (g.nt+1) P x.1 x.2.set){A:Option Addr}{c2:Nat}(r1:W2.ownsRow w3.heap.size 240 4 (.slice A (ED.length+1) c2) (ED.length+1) (ED.flatMap edC++edC x))(r2:Keeps w3.heap.size [240] W W2) :
  Itm w1 w3 w0 (W2.setCell ⟨mb,11,none⟩ (.slice A (ED.length+1) c2)) mb fb n c v lv rv tlv uv cv bv av (.slice A (ED.length+1) c2) g base P S (ED++[x]) FR FR0 st n0 (p.1,p.2.1,p.2.2++[x.2])∧Keeps w1.heap.size [192,240] wr (W2.setCell ⟨mb,11,none⟩ (.slice A (ED.length+1) c2)):=by
 obtain⟨h1,h2⟩:=h.mk_.edged hb hx r1 r2;refine⟨⟨h1,h.len,h.row,h.rows,by rw[mpA,h.eds];rfl,h.keeps.trans (h2.mono (leR _) (fun t ht=>by simp at ht;rcases ht with rfl|rfl<;>decide)),h.ge⟩,h2⟩
theorem Itm.ended(h:Itm w1 w3 w0 wr mb fb n c v lv rv tlv uv cv bv av ev g base P S ED FR FR0 st n0 p)(hst:st<FR0.length){k:Nat}{e:Ending}(he:EndEnd w1 w3 wr mb fb n c v lv rv tlv uv cv bv ev g base P (S++List.replicate (P.length-n0) 0) ED FR st (Gz.endL p.1 p.2.1 k) e w2) :
  e=.returned (.int .i64 (Gz.endL p.1 p.2.1 k).1)∧∃av' P' FR',Itm w1 w3 w0 w2 mb fb n c v lv rv tlv uv cv bv av' ev g base P' S ED FR' FR0 st n0 ((Gz.endL p.1 p.2.1 k).2.1,(Gz.endL p.1 p.2.1 k).2.2,p.2.2)∧Keeps w1.heap.size [192,90,246,248] wr w2∧∀(q:Option SetH) (T:Nat),EdOk wr (g.nt+1) P q T→EdOk w2 (g.nt+1) P' q T:=by
 obtain⟨h1,av',P',FR',h2,h3,h4,h5,h6⟩:=he;obtain⟨g1,g2⟩:=endL_grows p.1 p.2.1 k;have hge:=h.ge;have hlen:=h.len;refine⟨h1,av',P',FR',⟨?_,h3,?_,?_,h.eds,h.keeps.trans (h5.mono (leR _) (fun t ht=>by simp at ht;rcases ht with rfl|rfl|rfl|rfl<;>decide)),by simp only;omega⟩,h5,h6⟩
 ·have e:S++List.replicate (P.length-n0) 0++List.replicate (P'.length-P.length) 0=S++List.replicate (P'.length-n0) 0:=by
   rw[List.append_assoc,List.replicate_append_replicate];congr 2;omega
  rw[←e];exact h2
 ·have h7:(FR'.map (·.2))[st]?=some (Gz.endL p.1 p.2.1 k).2.2:=by
   rw[h4,tG];rw[h.rows,List.length_set];exact hst
  rw[pG]at h7;obtain⟨y,hy,hy2⟩:=Option.map_eq_some_iff.1 h7;exact⟨y.1,by rw[hy,←hy2]⟩
 ·rw[h4,h.rows,List.set_set]
end
end Go.Proofs.YthaacmablcpdfaaGreatDoor
