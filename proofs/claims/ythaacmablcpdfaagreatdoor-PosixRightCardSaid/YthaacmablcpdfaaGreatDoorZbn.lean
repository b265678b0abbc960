/- Where a kernel item's lookaheads go. -/
import Derived.Test.YthaacmablcpdfaaGreatDoorZbm
import Derived.Deep.DeepCutAuto
import Derived.Test.YthaacmablcpdfaaGreatDoorNm
namespace Go.Proofs.YthaacmablcpdfaaGreatDoor
open Go.RowKit
set_option linter.unusedVariables false
set_option maxRecDepth 100000
section
variable {w1 w3 w0 wr:World} {mb fb n c:Nat} {v lv rv tlv uv cv bv av ev:Value} {g:Gz} {V:List (Value×Value)} {L E:List (List It)} {T:List (List (Nat×Bool))} {CC:List (List Come)} {base:List Nat} {P:List SetH} {S:List Nat} {ED:List (Option SetH×Edge)} {FR:List (Value×List It)} {FR0:List (List It)} {st n0:Nat} {p:Gz.Eds}
set_option maxHeartbeats 4000000 in
theorem Mk.cells{a0 a1 a2 a3:Value}(h:Mk w1 w3 wr mb fb n c (.agg #[a0,a1,a2,a3]) lv rv tlv uv cv bv av ev g base P S ED FR) :
  (wr.cell? ⟨mb,0,none⟩=some a0∧wr.cell? ⟨mb,1,none⟩=some a1∧wr.cell? ⟨mb,2,none⟩=some a2∧wr.cell? ⟨mb,3,none⟩=some a3)∧wr.cell? ⟨mb,4,none⟩=some lv∧wr.cell? ⟨mb,5,none⟩=some rv∧wr.cell? ⟨mb,6,none⟩=some tlv∧wr.cell? ⟨mb,7,none⟩=some uv∧wr.cell? ⟨mb,8,none⟩=some cv∧wr.cell? ⟨mb,9,none⟩=some bv∧wr.cell? ⟨mb,10,none⟩=some av∧wr.cell? ⟨mb,11,none⟩=some ev∧wr.cell? ⟨mb,12,none⟩=some (.slice (some ⟨fb,0,none⟩) n c):=by
 have hc:=h.blk.cell;exact⟨⟨hc 0,hc 1,hc 2,hc 3⟩,hc 4,hc 5,hc 6,hc 7,hc 8,hc 9,hc 10,hc 11,hc 12⟩
theorem RtsA.atA{A:Nat→Prop}{w:World}{v:Value}{n:Nat}{f:Nat→List Nat}(h:RtsA A w v n f){k:Nat}(hk:k<n):∃b off c Ad c2,v=.slice (some ⟨b,off,none⟩) n c∧(A b∧b<w.heap.size)∧w.cell? ⟨b,off+k,none⟩=some (.slice Ad (f k).length c2)∧NumsA A w (.slice Ad (f k).length c2) (f k):=by obtain⟨Ad,c,hv,hn,hm,hr⟩:=h;obtain⟨b,off,hAd,hb,hlt,hx⟩:=hr k hk;obtain⟨x,h1,h2⟩:=hx 0 (by omega);obtain⟨A2,c2,hv2⟩:=h2.shape;subst hv2;refine⟨b,off,c,A2,c2,by rw[hv,hAd],⟨hb,hlt⟩,?_,h2⟩;rw[Nat.mul_one,Nat.add_zero]at h1;exact h1
theorem CmsA.at_{A:Nat→Prop}{w:World}{m:Nat}{v:Value}{n:Nat}{CC:List (List Come)}(h:CmsA A w m v n CC){k:Nat}(hk:k<n):∃b off c Ad c2,v=.slice (some ⟨b,off,none⟩) n c∧(A b∧b<w.heap.size)∧w.cell? ⟨b,off+k,none⟩=some (.slice Ad (CC.getD k []).length c2)∧CmA A w m (.slice Ad (CC.getD k []).length c2) (CC.getD k []):=by obtain⟨Ad,c,hv,hn,hm,hr⟩:=h;obtain⟨b,off,hAd,hb,hlt,hx⟩:=hr k hk;obtain⟨x,h1,h2⟩:=hx 0 (by omega);obtain⟨A2,c2,hv2,hh⟩:=id h2;rw[hv2]at h1 h2;refine⟨b,off,c,A2,c2,by rw[hv,hAd],⟨hb,hlt⟩,?_,h2⟩;rw[Nat.mul_one,Nat.add_zero]at h1;exact h1
theorem CmA.at_{A:Nat→Prop}{w:World}{m:Nat}{Ad:Option Addr}{n c:Nat}{l:List Come}(h:CmA A w m (.slice Ad n c) l){d:Nat}{x:Come}(hd:l[d]?=some x):∃b off,∃hs:SetH,Ad=some ⟨b,off,none⟩∧(A b∧b<w.heap.size)∧w.cell? ⟨b,off+d*3,none⟩=some (.int .i64 (x.s:Nat))∧w.cell? ⟨b,off+d*3+1,none⟩=some hs.v∧w.cell? ⟨b,off+d*3+2,none⟩=some (.bool x.self)∧hs.n=m∧SetA A w hs x.set:=by
 obtain⟨hd1,hd2⟩:=sG.1 hd;have hg:l.getD d ⟨0,0,false⟩=x:=by rw[dG,hd];rfl
 obtain⟨Ad',c',hv,hn,hm,hr⟩:=h;cases hv
 obtain⟨b,off,hAd,hb,hlt,hx⟩:=hr d hd1;obtain⟨x0,h0,hx0⟩:=hx 0 (by omega);obtain⟨x1,h1,hs,rfl,hsn,hsa⟩:=hx 1 (by omega);obtain⟨x2,h2,hx2⟩:=hx 2 (by omega);have hx0:x0=.int .i64 ((l.getD d ⟨0,0,false⟩).s:Nat):=hx0;have hx2:x2=.bool (l.getD d ⟨0,0,false⟩).self:=hx2;rw[hg]at hx0 hsa hx2;refine⟨b,off,hs,hAd,⟨hb,hlt⟩,?_,h1,?_,hsn,hsa⟩
 ·rw[hx0]at h0;exact h0
 ·rw[hx2]at h2;exact h2
def ItmEnd(w1 w3 w0:World)(mb fb n c:Nat)(v lv rv tlv uv cv bv:Value)(g:Gz)(base:List Nat)(S:List Nat)(FR0:List (List It))(st n0:Nat)(q:Gz.Eds)(e:Ending)(w':World):Prop:=
 e=.returned (.tuple #[])∧∃av' ev' P' ED' FR',Itm w1 w3 w0 w' mb fb n c v lv rv tlv uv cv bv av' ev' g base P' S ED' FR' FR0 st n0 q
theorem Itm.mend(hgn:GN w1 v g)(h:Itm w1 w3 w0 wr mb fb n c v lv rv tlv uv cv bv av ev g base P S ED FR FR0 st n0 p)(hst:st<FR0.length)(hP:p.1≤100000)(hF:p.2.1.length≤100000)(k:Nat) :
  Calls Tryz.prog 158 #[.pointer (some ⟨mb,0,none⟩),.int .i64 st,.int .i64 k] wr fun e w2=>e=.returned (.int .i64 (Gz.endL p.1 p.2.1 k).1)∧∃av' P' FR',Itm w1 w3 w0 w2 mb fb n c v lv rv tlv uv cv bv av' ev g base P' S ED FR' FR0 st n0 ((Gz.endL p.1 p.2.1 k).2.1,(Gz.endL p.1 p.2.1 k).2.2,p.2.2)∧Keeps w1.heap.size [192,90,246,248] wr w2∧∀(q:Option SetH) (T:Nat),EdOk wr (g.nt+1) P q T→EdOk w2 (g.nt+1) P' q T:=by
 obtain⟨fv,hfv⟩:=h.row;refine(mend_any (s:=st) (k:=k) hgn h.mk_ (by rw[h.len];exact hP) hfv hF).mono ?_;intro e w2 he;have e1:Gz.endL P.length p.2.1 k=Gz.endL p.1 p.2.1 k:=by rw[h.len]
 rw[e1]at he;exact h.ended hst he
set_option maxHeartbeats 16000000 in
theorem mitem_any(hs:Stc w1 w3 mb fb v lv rv tlv uv cv g V L E T CC)(hsm:Small L base)(h:Itm w1 w3 w0 wr mb fb n c v lv rv tlv uv cv bv av ev g base P S ED FR FR0 st n0 p)(hst:st<FR0.length)(hstL:st<L.length){x:It}{at_:Nat}(hx1:x.1≤g.R.length)(hx2:x.2≤1000000){q:Gz.Eds}(hq:g.edgeItem L E base T CC st at_ x p=some q)(hq1:q.1≤100000)(hq2:q.2.1.length≤100000)(hq3:q.2.2.length≤1000000) :
  Calls Tryz.prog 113 #[.pointer (some ⟨mb,0,none⟩),.int .i64 st,.int .i64 at_,itV x] wr (ItmEnd w1 w3 w0 mb fb n c v lv rv tlv uv cv bv g base S FR0 st n0 q):=by
 have hgrow:=edgeItem_grows hq;have hnt:=hs.gn.fit.nt;obtain⟨AT,cT,AN,cN,AR,cR,rfl,-,-⟩:=hs.gn.open_;have HS:=Hd hs;have HSM:=Hd hsm;have HIT:=Hd h;have HQ:=Hd hq;have HXL:Hid (∀y:World,Chg (XL mb fb w3.heap.size) w3 y→RtsA (Sx mb fb w3.heap.size) y rv (g.R.length+1) g.right∧TlsA (Sx mb fb w3.heap.size) y (g.nt+1) tlv (g.R.length+1) T∧RtsA (Sx mb fb w3.heap.size) y uv (g.top+1) g.ofL∧CmsA (Sx mb fb w3.heap.size) y (g.nt+1) cv (g.top+1) CC):=Hd (fun y hy=>⟨hs.rts.chg hy (fun b hb=>hb.no),hs.tls.chg hy (fun b hb=>hb.no),hs.rls.chg hy (fun b hb=>hb.no),hs.cms.chg hy (fun b hb=>hb.no)⟩)
 obtain⟨⟨z0,z1,z2,z3⟩,z4,z5,z6,z7,z8,z9,z10,z11,z12⟩:=h.mk_.cells;have ml:=h.mk_.blk.lt;obtain⟨br,or_,cr,Ar,cr2,hrv,⟨hbA,hbr⟩,hr0,hr1⟩:=hs.rts.atA (k:=x.1) (by omega);subst hrv;obtain⟨xa,xb⟩:=x;simp only at hr0 hr1 hx1 hx2;obtain⟨rl,hrl⟩:∃l,(g.right xa).length=l:=⟨_,rfl⟩
 have HRL:=Hd hrl;rw[hrl]at hr0 hr1;have HRY:Hid (∀y:World,Chg (XL mb fb w3.heap.size) w3 y→y.cell? ⟨br,or_+xa,none⟩=some (.slice Ar rl cr2)∧NumsA (Sx mb fb w3.heap.size) y (.slice Ar rl cr2) (g.right xa)):=Hd (fun y hy=>⟨(hy.cell hbr hbA.no _).trans hr0,hr1.chg hy (fun b hb=>hb.no)⟩);obtain⟨hr0,hr1⟩:=HRY.out wr h.mk_.chg;have hbr:br<wr.heap.size:=ltL hbr h.mk_.chg.size;have HXB:=Hd (Blk.new wr 194 #[.int .i64 xa,.int .i64 xb]);have HBX:=Hd (below_alloc1 wr (.cells #[.int .i64 xa,.int .i64 xb] 194));have HG:=Hd hgrow;have hxr:(xa:Int)<((g.R.length+1:Nat):Int):=by omega
 have hxr2:(xa:Int)<(g.R.length:Int)+1:=by omega
 unfold itV;clear hs hsm h hq hgrow hr1 hrl z0 z1 z2 z3 z4 z6 z7 z8 z9 z10 z12 hbA;unfold ItmEnd;go_enter Tryz.func113,Tryz.ntmps113
 go_upto_region 1 with fail
 have x0:=Blk.cell HXB.out 0;have x1:=Blk.cell HXB.out 1;have xl:=Blk.lt HXB.out;simp at x0 x1 xl;go_quiet (fail)
 have HITW:=Hd ((HIT.out.later HBX.out).later (w2:=(wr.alloc (.cells #[.int .i64 xa,.int .i64 xb] 194)).drewN nq) ⟨rfl,rfl,rfl,leR _,fun _ _=>rfl⟩);have HXW:Hid (Blk ((wr.alloc (.cells #[.int .i64 xa,.int .i64 xb] 194)).drewN nq) wr.heap.size 194 #[.int .i64 xa,.int .i64 xb]):=Hd (HXB.out.drewN nq);generalize (wr.alloc (.cells #[.int .i64 xa,.int .i64 xb] 194)).drewN nq=W at *;generalize wr.heap.size=bx at *;have HXI:=Hd HXW.out.lt;clear x0 x1 xl z5 z11 ml hr0 hbr HXB HBX HIT;have x0:W.cell? ⟨bx,0,none⟩=some (.int .i64 xa):=Blk.cell HXW.out 0;have x1:W.cell? ⟨bx,1,none⟩=some (.int .i64 xb):=Blk.cell HXW.out 1
 have xl:=HXW.out.lt;by_cases hend:rl≤xb
 ·have hge:((rl:Int)≤(xb:Int)):=by omega
  have HE:Hid (q=p):=Hd (by have h:=HQ.out;unfold Gz.edgeItem at h;rw[if_pos (by rw[HRL.out];exact hend)]at h;exact(Option.some.inj h).symm)
  clear hend;go_wp2_with fail
  refine bodyPost_ret (results_none rfl _ _ _) rfl ?_;refine⟨rfl,av,ev,P,ED,FR,?_⟩;rw[HE.out];exact HITW.out
 ·have hge:¬((rl:Int)≤(xb:Int)):=by omega
  have hlt:xb<rl:=by omega
  obtain⟨t0,hto,hrest⟩:∃t0,g.toL L E base st (xa,xb)=some t0∧(if g.non (g.next (xa,xb)) then g.edgeComes L E base st at_ (Gz.tailAt T xa xb) (CC.getD (g.next (xa,xb)) []) (p.1,p.2.1,p.2.2++[⟨t0,at_,0,true⟩]) else some (p.1,p.2.1,p.2.2++[⟨t0,at_,0,true⟩]))=some q:=by
   have h:=HQ.out;unfold Gz.edgeItem at h;rw[if_neg (by rw[HRL.out];omega)]at h;split at h
   ·cases h
   ·rename_i t0 ht0
    exact⟨t0,ht0,h⟩
  have HREST:=Hd hrest;have HTO:Hid (Calls Tryz.prog 154 #[.pointer (some ⟨mb,0,none⟩),.int .i64 st,itV (xa,xb)] W.drew fun e w'=>e=.returned (.int .i64 t0)∧Below W.heap.size W w'):=Hd (by
   have hm:=HITW.out.mk_;obtain⟨⟨y0,y1,y2,y3⟩,y4,y5,y6,y7,y8,y9,y10,y11,y12⟩:=hm.cells;have hB:Nums W bv base:=nums_own hm.bas (by have h1:=HSM.out.1;have h2:=HS.out.aut.len.1;have h3:=HS.out.aut.small;omega)
   refine(toN_any (w:=W.drew) (A:=Sx mb fb w3.heap.size) (V:=V) (L:=L) (E:=E) (base:=base) (g:=g) y4 y5 y9 (HS.out.aut.later (hm.below.trans (((Below.refl _ W).drew).mono hm.below.size))) ((HXL.out W hm.chg).1.chg (X:=fun _=>False) ⟨rfl,rfl,rfl,leR _,fun _ _ _=>rfl⟩ (fun _ _=>id)) (hB.later ((Below.refl _ W).drew)) HSM.out.1 hx1 (by rw[HRL.out];exact hlt) hx2 hstL hto (toL_le HSM.out hto)).mono ?_;rintro e w' ⟨rfl,h2⟩;exact⟨rfl,((Below.refl _ W).drew).trans h2⟩)
  have ht0:=toL_le HSM.out hto;obtain⟨Ae,ce,hev⟩:=own_shape2 HITW.out.mk_.edges;subst hev;have hel:ED.length≤1000000:=by have h1:=congrArg List.length HITW.out.eds;rw[lM]at h1;have h2:=HG.out.2.2;omega
  obtain⟨ne,hne⟩:∃k,ED.length=k:=⟨_,rfl⟩
  have HNE:=Hd hne;have z11:W.cell? ⟨mb,11,none⟩=some (.slice Ae ne ce):=by rw[←hne];exact HITW.out.mk_.cells.2.2.2.2.2.2.2.2.1
  have ml:=HITW.out.mk_.blk.lt;rw[hne]at hel;have HW3:=Hd HITW.out.mk_.chg.size;have HSB:Hid (∀Y,Below W.heap.size W Y→Y.cell? ⟨mb,11,none⟩=some (.slice Ae ne ce)∧Y.cell? ⟨bx,0,none⟩=some (.int .i64 xa)∧Y.cell? ⟨bx,1,none⟩=some (.int .i64 xb)):=Hd (fun Y hy=>⟨(hy.cell (p:=⟨mb,11,none⟩) ml).trans z11,(hy.cell (p:=⟨bx,0,none⟩) xl).trans x0,(hy.cell (p:=⟨bx,1,none⟩) xl).trans x1⟩);unfold itV at HTO;clear hrest hto hne HQ hend;go_upto_region 3 with fail
  refine wp_regionK 15 (fun(v:World)=>v.cell? ⟨mb,11,none⟩=some (.slice Ae ne ce)∧v.cell? ⟨bx,0,none⟩=some (.int .i64 xa)∧v.cell? ⟨bx,1,none⟩=some (.int .i64 xb)) (by kernel_rfl) ?_;have hHeld:(fun(v:World)=>v.cell? ⟨mb,11,none⟩=some (.slice Ae ne ce)∧v.cell? ⟨bx,0,none⟩=some (.int .i64 xa)∧v.cell? ⟨bx,1,none⟩=some (.int .i64 xb)) W.drew:=⟨z11,x0,x1⟩
  refine takeQ 0 hHeld ?_;simp only[setS,setZ];refine takeQ 1 hHeld ?_;simp only[setS,setZ];refine takeQ 2 hHeld ?_;simp only[setS,setZ];refine takeQ 3 hHeld ?_;simp only[setS,setZ];refine takeQ 4 hHeld ?_;simp only[setS,setZ];refine takeQ 5 hHeld ?_;simp only[setS,setZ];refine takeQ 6 hHeld ?_;simp only[setS,setZ];refine takeQ 7 hHeld ?_;simp only[setS,setZ];refine takeQ 9 hHeld ?_;simp only[setS,setZ];refine nextK 8 (by kernel_rfl) rfl rfl (fun K hK=>?_);go_simp;refine HTO.out.mono ?_;rintro e w2 ⟨rfl,hb2⟩;have HB2:=Hd hb2;have HB2A:Hid (Below W.heap.size W (w2.alloc (.cells #[.int .i64 (t0:Nat),.int .i64 (at_:Nat),.pointer none,.bool true] 240))):=Hd (hb2.alloc hb2.size _)
  clear hb2 hHeld;refine hK.out _ _ (fun _=>HSB.out w2 HB2.out) ?_;clear hK K;have hHeld:(fun(v:World)=>v.cell? ⟨mb,11,none⟩=some (.slice Ae ne ce)∧v.cell? ⟨bx,0,none⟩=some (.int .i64 xa)∧v.cell? ⟨bx,1,none⟩=some (.int .i64 xb)) w2:=HSB.out w2 HB2.out;refine takeQ 10 hHeld ?_;simp only[setS,setZ];clear hHeld;refine nextK 11 (by kernel_rfl) rfl rfl (fun K hK=>?_);go_simp;refine hK.out _ _ (fun _=>HSB.out _ HB2A.out) ?_;clear hK K;refine nextKv 12 (by kernel_rfl) rfl rfl rfl (fun K hK=>?_);refine wp_app ElEdge (.tmp 34) (.tmp 41) rfl (base:=w3.heap.size) (n:=ne) (m:=1) (N:=ne+1) (v:=.slice Ae ne ce) (src:=.slice (some ⟨w2.heap.size,0,none⟩) 1 1) (xs:=ED.flatMap edC) (news:=edC (none,⟨t0,at_,0,true⟩)) rfl rfl (own_below (by have h:=HITW.out.mk_.edges;rw[HNE.out]at h;exact h) HB2A.out) (SrcOK.blk (c:=1) (cs:=edC (none,⟨t0,at_,0,true⟩)) (Blk.new w2 240 _) rfl (fun u hu=>by unfold edC hV at hu;simp at hu;rcases hu with rfl|rfl|rfl|rfl<;>rfl)) rfl (by unfold maxLen;omega) (by omega) (by have:=HW3.out;have:=HB2A.out.size;omega) ?_
  intro A4 c4 w4 q1 q2 q3;have HED:=Hd (HITW.out.edged HB2A.out (x:=(none,⟨t0,at_,0,true⟩)) (A:=A4) (c2:=c4) rfl (by rw[HNE.out];exact q1) q2);rw[HNE.out]at HED;have HMB4:Hid (Blk w4 mb 192 _):=Hd (q2.blk (HITW.out.mk_.blk.below HB2A.out HITW.out.mk_.blk.lt) (.inr (by decide)));have y11:w4.cell? ⟨mb,11,none⟩=some (.slice Ae ED.length ce):=Blk.cell HMB4.out 11;rw[HNE.out]at y11;have yf:=Blk.frozen HMB4.out 11;have yl:=HMB4.out.lt;have HX4:Hid (Blk w4 bx 194 #[.int .i64 xa,.int .i64 xb]):=Hd (q2.blk (HXW.out.below HB2A.out HXW.out.lt) (.inr (by decide)));have y0:w4.cell? ⟨bx,0,none⟩=some (.int .i64 xa):=Blk.cell HX4.out 0
  have y1:w4.cell? ⟨bx,1,none⟩=some (.int .i64 xb):=Blk.cell HX4.out 1;clear q1 q2 q3;refine hK.out _ _ (fun _=>⟨y11,y0,y1⟩) ?_;clear hK K;simp only[List.set_cons_succ,List.set_cons_zero];refine nextK 13 (by kernel_rfl) rfl rfl (fun K hK=>?_);go_simp;refine hK.out _ _ (fun _=>⟨y11,y0,y1⟩) ?_;clear hK K;refine nextK 14 (by kernel_rfl) rfl rfl (fun K hK=>?_);go_simp;refine hK.out _ _ (fun _=>⟨y11,y0,y1⟩) ?_;clear hK K;refine nextK 15 (by kernel_rfl) rfl rfl (fun K hK=>?_);go_simp;refine hK.out _ _ (fun h=>absurd rfl h) ?_;clear hK K;refine doneK (by kernel_rfl) ?_ _;have HI5:=Hd HED.out.1;have HX5:Hid (Blk (w4.setCell ⟨mb,11,none⟩ (.slice A4 (ne+1) c4)) bx 194 #[.int .i64 xa,.int .i64 xb]):=Hd (HED.out.2.blk HXW.out (.inr (by decide)))
  generalize w4.setCell ⟨mb,11,none⟩ (.slice A4 (ne+1) c4)=W5 at *;clear HED;clear y0 y1 y11 yf yl x0 x1 xl z11 ml;obtain⟨ss,hss⟩:∃s,(g.right xa)[xb]?=some s:=⟨_,eG (by rw[HRL.out];exact hlt)⟩
  have hsn:g.next (xa,xb)=ss:=by unfold Gz.next;rw[dG,hss];rfl
  have hst2:ss≤g.top:=HS.out.gn.fit.right_le (mG hss);rw[hsn]at HREST;obtain⟨bS,oS,hAr,hSA,hbS,hcS⟩:=(HRY.out W5 HI5.out.mk_.chg).2.at_ hss;subst hAr;have HSY:Hid (∀y:World,Below W5.heap.size W5 y→(y.cell? ⟨mb,0,none⟩=some (.slice AT g.nt cT)∧y.cell? ⟨mb,1,none⟩=some (.slice AN g.nn cN)∧y.cell? ⟨mb,2,none⟩=some (.slice AR g.R.length cR)∧y.cell? ⟨mb,3,none⟩=some (.int .i64 g.s))∧y.cell? ⟨bx,0,none⟩=some (.int .i64 xa)∧y.cell? ⟨bx,1,none⟩=some (.int .i64 xb)∧y.cell? ⟨bS,oS+xb,none⟩=some (.int .i64 ss)):=Hd (fun y hy=>by have hb:=HX5.out.below hy HX5.out.lt;exact⟨(HI5.out.mk_.later hy).cells.1,hb.cell 0,hb.cell 1,(hy.cell (p:=⟨bS,oS+xb,none⟩) hbS).trans hcS⟩)
  have HD5:Hid (Below W5.heap.size W5 W5.drew):=Hd ((Below.refl _ W5).drew);have HNO:=Hd (nonN_any (HS.out.gn.later (HI5.out.mk_.below.trans (HD5.out.mono HI5.out.mk_.below.size))) ss);have hxbi:(xb:Int)<(rl:Int):=by omega
  have HSS:=Hd hss;clear hss hsn hcS hbS;go_upto_region 4 with fail
  go_region_held3 (fun v=>(v.cell? ⟨mb,0,none⟩=some (.slice AT g.nt cT)∧v.cell? ⟨mb,1,none⟩=some (.slice AN g.nn cN)∧v.cell? ⟨mb,2,none⟩=some (.slice AR g.R.length cR)∧v.cell? ⟨mb,3,none⟩=some (.int .i64 g.s))∧v.cell? ⟨bx,0,none⟩=some (.int .i64 xa)∧v.cell? ⟨bx,1,none⟩=some (.int .i64 xb)∧v.cell? ⟨bS,oS+xb,none⟩=some (.int .i64 ss))
   (first|exact HSY.out _ HD5.out|exact HSY.out _ HB6.out)
   (first|(
        go_at_call 40;refine HNO.out.mono ?_;rintro e w6 ⟨rfl,hb6⟩
        have HB6:=Hd (HD5.out.trans hb6);clear hb6))
  cases hnon:g.non ss with
  | false=>
   have HNN:=Hd hnon;clear hnon;have HE:Hid (q=(p.1,p.2.1,p.2.2++[⟨t0,at_,0,true⟩])):=Hd (by have h:=HREST.out;rw[HNN.out,if_neg (by simp)]at h;exact(Option.some.inj h).symm)
   go_wp2_with fail
   refine bodyPost_ret (results_none rfl _ _ _) rfl ?_;refine⟨rfl,?_⟩;rw[HE.out];exact⟨_,_,_,_,_,HI5.out.later HB6.out⟩
  | true=>
   have HNN:=Hd hnon;have HEC:Hid (g.edgeComes L E base st at_ (Gz.tailAt T xa xb) (CC.getD ss []) (p.1,p.2.1,p.2.2++[⟨t0,at_,0,true⟩])=some q):=Hd (by have h:=HREST.out;rw[hnon,if_pos rfl]at h;exact h)
   clear hnon;obtain⟨⟨tS,te⟩,htt⟩:∃t,(T.getD xa [])[xb]?=some t:=⟨_,eG (by rw[HS.out.tlen xa hx1,HRL.out];exact hlt)⟩
   have htA:Gz.tailAt T xa xb=(tS,te):=by unfold Gz.tailAt;rw[dG,htt];rfl
   rw[htA]at HEC;obtain⟨bt,ot,ct,xt,htlv,⟨hbtA,hbt⟩,hct,htl⟩:=HS.out.tls.at_ (k:=xa) (by omega);subst htlv;obtain⟨b2,o2,c2t,ht,hxt,⟨hb2A,hb2⟩,ht0',ht1,htn,hts⟩:=htl.at_ htt;subst hxt;have htl3:(T.getD xa []).length=rl:=by rw[HS.out.tlen xa hx1,HRL.out]
   rw[htl3]at hct;have HTY:Hid (∀y:World,Chg (XL mb fb w3.heap.size) w3 y→(y.cell? ⟨bt,ot+xa,none⟩=some (.slice (some ⟨b2,o2,none⟩) rl c2t)∧y.cell? ⟨b2,o2+xb*2,none⟩=some (.pointer (some ⟨ht.h,0,none⟩))∧y.cell? ⟨b2,o2+xb*2+1,none⟩=some (.bool te))∧SetAt y ht tS∧bt<y.heap.size∧b2<y.heap.size):=Hd (fun y hy=>⟨⟨(hy.cell hbt hbtA.no _).trans hct,(hy.cell hb2 hb2A.no _).trans ht0',(hy.cell hb2 hb2A.no _).trans ht1⟩,(hts.chg hy (fun b hb=>hb.no)).1,ltL hbt hy.size,ltL hb2 hy.size⟩);have HTN:=Hd htn;have HTSX:Hid (ht.wb<w3.heap.size):=Hd hts.2.2.1;clear htt htA htl hct ht0' ht1 hts htn htl3
   have HI6:=Hd (HI5.out.later HB6.out);have HX6:=Hd (HX5.out.below HB6.out HX5.out.lt);have hz6:w6.cell? ⟨mb,6,none⟩=some (.slice (some ⟨bt,ot,none⟩) (g.R.length+1) ct):=HI6.out.mk_.cells.2.2.2.1;obtain⟨⟨k1,k2,k3⟩,_,kl1,kl2⟩:=HTY.out w6 HI6.out.mk_.chg;have x0:w6.cell? ⟨bx,0,none⟩=some (.int .i64 xa):=Blk.cell HX6.out 0;have x1:w6.cell? ⟨bx,1,none⟩=some (.int .i64 xb):=Blk.cell HX6.out 1;have ml6:=HI6.out.mk_.blk.lt;have xl6:=HX6.out.lt;go_upto_region 5 with fail
   refine wp_regionK 13 (fun(v:World)=>v.cell? ⟨mb,6,none⟩=some (.slice (some ⟨bt,ot,none⟩) (g.R.length+1) ct)∧v.cell? ⟨bx,0,none⟩=some (.int .i64 xa)∧v.cell? ⟨bx,1,none⟩=some (.int .i64 xb)∧v.cell? ⟨bt,ot+xa,none⟩=some (.slice (some ⟨b2,o2,none⟩) rl c2t)∧v.cell? ⟨b2,o2+xb*2,none⟩=some (.pointer (some ⟨ht.h,0,none⟩))∧v.cell? ⟨b2,o2+xb*2+1,none⟩=some (.bool te)) (by kernel_rfl) ?_;have hHeld:(fun(v:World)=>v.cell? ⟨mb,6,none⟩=some (.slice (some ⟨bt,ot,none⟩) (g.R.length+1) ct)∧v.cell? ⟨bx,0,none⟩=some (.int .i64 xa)∧v.cell? ⟨bx,1,none⟩=some (.int .i64 xb)∧v.cell? ⟨bt,ot+xa,none⟩=some (.slice (some ⟨b2,o2,none⟩) rl c2t)∧v.cell? ⟨b2,o2+xb*2,none⟩=some (.pointer (some ⟨ht.h,0,none⟩))∧v.cell? ⟨b2,o2+xb*2+1,none⟩=some (.bool te)) w6.drew:=⟨hz6,x0,x1,k1,k2,k3⟩
   refine takeQ 0 hHeld ?_;simp only[setS,setZ];refine takeQ 1 hHeld ?_;simp only[setS,setZ];refine takeQ 2 hHeld ?_;simp only[setS,setZ];refine takeQ 3 hHeld ?_;simp only[setS,setZ];refine takeQ 4 hHeld ?_;simp only[setS,setZ];refine takeQ 5 hHeld ?_;simp only[setS,setZ];refine takeQ 6 hHeld ?_;simp only[setS,setZ];refine takeQ 7 hHeld ?_;simp only[setS,setZ];refine takeQ 8 hHeld ?_;simp only[setS,setZ];refine takeQ 9 hHeld ?_;simp only[setS,setZ];refine takeQ 10 hHeld ?_;simp only[setS,setZ];refine takeQ 11 hHeld ?_;simp only[setS,setZ];clear hHeld;have HSB5:Hid (∀Y,Below w6.heap.size w6 Y→(fun(v:World)=>v.cell? ⟨mb,6,none⟩=some (.slice (some ⟨bt,ot,none⟩) (g.R.length+1) ct)∧v.cell? ⟨bx,0,none⟩=some (.int .i64 xa)∧v.cell? ⟨bx,1,none⟩=some (.int .i64 xb)∧v.cell? ⟨bt,ot+xa,none⟩=some (.slice (some ⟨b2,o2,none⟩) rl c2t)∧v.cell? ⟨b2,o2+xb*2,none⟩=some (.pointer (some ⟨ht.h,0,none⟩))∧v.cell? ⟨b2,o2+xb*2+1,none⟩=some (.bool te)) Y):=Hd (fun Y hy=>by
    have hb:=HX6.out.below hy HX6.out.lt;exact⟨(hy.cell (p:=⟨mb,6,none⟩) ml6).trans hz6,hb.cell 0,hb.cell 1,(hy.cell (p:=⟨bt,ot+xa,none⟩) kl1).trans k1,(hy.cell (p:=⟨b2,o2+xb*2,none⟩) kl2).trans k2,(hy.cell (p:=⟨b2,o2+xb*2+1,none⟩) kl2).trans k3⟩)
   refine nextK 12 (by kernel_rfl) rfl rfl (fun K hK=>?_);go_simp;refine hK.out _ _ (fun _=>HSB5.out _ (((Below.refl _ w6).alloc (leR _) _).drew)) ?_;clear hK K;refine nextK 13 (by kernel_rfl) rfl rfl (fun K hK=>?_);go_simp;refine hK.out _ _ (fun h=>absurd rfl h) ?_;clear hK K;refine doneK (by kernel_rfl) ?_ _;have HB7:Hid (Below w6.heap.size w6 ((w6.alloc (.cells #[.pointer (some ⟨ht.h,0,none⟩),.bool te] 235)).drew)):=Hd (((Below.refl _ w6).alloc (leR _) _).drew);have HTB:Hid (Blk ((w6.alloc (.cells #[.pointer (some ⟨ht.h,0,none⟩),.bool te] 235)).drew) w6.heap.size 235 #[.pointer (some ⟨ht.h,0,none⟩),.bool te]):=Hd (Blk.drew (Blk.new w6 235 _))
   have HI7:=Hd (HI6.out.later HB7.out);have HX7:=Hd (HX6.out.below HB7.out HX6.out.lt);generalize (w6.alloc (.cells #[.pointer (some ⟨ht.h,0,none⟩),.bool te] 235)).drew=W7 at *;generalize w6.heap.size=tb at *;clear k1 k2 k3 kl1 kl2 x0 x1 ml6 xl6 hz6 HI6 HX6 HSB5 HSB HI5 HX5 HSY HNO HD5;have t0_:W7.cell? ⟨tb,0,none⟩=some (.pointer (some ⟨ht.h,0,none⟩)):=Blk.cell HTB.out 0;have t1_:W7.cell? ⟨tb,1,none⟩=some (.bool te):=Blk.cell HTB.out 1;have tl_:=HTB.out.lt;obtain⟨nn,hnn⟩:∃b,(!te&&tS==0)=b:=⟨_,rfl⟩
   have HNNE:=Hd hnn;go_upto_region 6 with fail
   go_cut [10] (fun nv wx=>nv=.bool nn∧wx=W7)
   case first=>
    cases te with
    | true=>
     have hn2:nn=false:=by rw[←hnn];rfl
     subst hn2;clear hnn;go_wp2_with fail
     go_meet
     exact⟨rfl,rfl⟩
    | false=>
     obtain⟨qq,hcall,hq0,hq1'⟩:=next_zero (HTY.out W7 HI7.out.mk_.chg).2.1;have HNX:=Hd hcall;unfold SetH.v at HNX;clear hcall;by_cases hz:tS=0
     ·have hn2:nn=true:=by rw[←hnn,hz];rfl
      have hlt0:qq<0:=hq0 hz;subst hn2;clear hnn hq0 hq1' hz;go_wp2_with (go_at_call 155;refine HNX.out.mono ?_;rintro e w8 ⟨rfl,rfl⟩)
      go_meet
      exact⟨rfl,rfl⟩
     ·have hn2:nn=false:=by rw[←hnn];simp[hz]
      have hlt0:¬(qq<0):=by have:=hq1' hz;omega
      subst hn2;clear hnn hq0 hq1' hz;go_wp2_with (go_at_call 155;refine HNX.out.mono ?_;rintro e w8 ⟨rfl,rfl⟩)
      go_meet
      exact⟨by rw[decide_eq_false (show ¬qq<0 by omega)],rfl⟩
   case rest=>
    obtain⟨rfl,rfl⟩:=hcut;clear hnn t0_ t1_;obtain⟨bc,oc,cc,Ac,cc2,hcv,⟨hbcA,hbc⟩,hcc,hcm⟩:=HS.out.cms.at_ (k:=ss) (by omega);subst hcv;obtain⟨CL,hCL⟩:∃l,CC.getD ss []=l:=⟨_,rfl⟩
    rw[hCL]at hcc hcm HEC;have HCS:Hid (∀c∈CL,c.s≤g.top):=Hd (fun c hc=>by
     rw[←hCL,dG]at hc;cases hq:CC[ss]? with
     | none=>rw[hq]at hc;cases hc
     | some l=>rw[hq]at hc;exact HS.out.cle l (mG hq) c hc)
    obtain⟨lc,hlc⟩:∃k,CL.length=k:=⟨_,rfl⟩
    have HLC:=Hd hlc;rw[hlc]at hcc hcm;have HCY:Hid (∀y:World,Chg (XL mb fb w3.heap.size) w3 y→y.cell? ⟨bc,oc+ss,none⟩=some (.slice Ac lc cc2)∧bc<y.heap.size∧CmA (Sx mb fb w3.heap.size) y (g.nt+1) (.slice Ac lc cc2) CL):=Hd (fun y hy=>⟨(hy.cell hbc hbcA.no _).trans hcc,ltL hbc hy.size,hcm.chg hy (fun b hb=>hb.no)⟩);have hlcb:lc≤1000000:=by obtain⟨_,_,_,_,hm,_⟩:=hcm;rw[HLC.out]at hm;exact hm
    clear hcc hcm hbc hbcA hCL hlc;have hz8:wc.cell? ⟨mb,8,none⟩=some (.slice (some ⟨bc,oc,none⟩) (g.top+1) cc):=HI7.out.mk_.cells.2.2.2.2.2.1;have x1:wc.cell? ⟨bx,1,none⟩=some (.int .i64 xb):=Blk.cell HX7.out 1;obtain⟨k1,kl1,-⟩:=HCY.out wc HI7.out.mk_.chg;have hcS:wc.cell? ⟨bS,oS+xb,none⟩=some (.int .i64 ss)∧bS<wc.heap.size:=by
     obtain⟨b',o',e,_,h1,h2⟩:=(HRY.out wc HI7.out.mk_.chg).2.at_ HSS.out;cases e
     exact⟨h2,h1⟩
    obtain⟨hcS,hlS⟩:=hcS;have hss2:(ss:Int)<((g.top+1:Nat):Int):=by omega
    have hss3:(ss:Int)<(g.top:Int)+1:=by omega
    have ml7:=HI7.out.mk_.blk.lt;have xl7:=HX7.out.lt;go_upto_region 7 with fail
    go_quiet (fail)
    have HI8:=Hd (HI7.out.later (w2:=wc.drewN nq) ⟨rfl,rfl,rfl,leR _,fun _ _=>rfl⟩);have HX8:Hid (Blk (wc.drewN nq) bx 194 #[.int .i64 xa,.int .i64 xb]):=Hd (HX7.out.drewN nq);have HTB8:Hid (Blk (wc.drewN nq) tb 235 #[.pointer (some ⟨ht.h,0,none⟩),.bool te]):=Hd (HTB.out.drewN nq);generalize wc.drewN nq=W8 at *;clear hz8 x1 k1 kl1 hcS hlS hss2 hss3 ml7 xl7 tl_ HI7 HX7 HTB HB7 HB6;go_wp2_with fail
    go_loopg [89] lc (fun m jj wr=>∃(j:Nat) (av' ev':Value) (P':List SetH) (ED':List (Option SetH×Edge)) (FR':List (Value×List It)) (p':Gz.Eds),Hid (m+j=lc)∧j≤lc∧jj=.int .i64 j∧Hid (Itm w1 w3 w0 wr mb fb n c (.agg #[.slice AT g.nt cT,.slice AN g.nn cN,.slice AR g.R.length cR,.int .i64 g.s]) lv (.slice (some ⟨br,or_,none⟩) (g.R.length+1) cr) (.slice (some ⟨bt,ot,none⟩) (g.R.length+1) ct) uv (.slice (some ⟨bc,oc,none⟩) (g.top+1) cc) bv av' ev' g base P' S ED' FR' FR0 st n0 p')∧Hid (g.edgeComes L E base st at_ (tS,te) (CL.drop j) p'=some q)∧Hid (Keeps w1.heap.size TT W8 wr))
    case atStart=>exact⟨0,_,_,_,_,_,_,Hd rfl,zeL _,rfl,HI8,HEC,Hd (Keeps.refl _ _ _)⟩
    case round=>
     obtain⟨j,av1,ev1,P1,ED1,FR1,p1,HMJ,hj,rfl,HI9,HEJ,HK9⟩:=hrel;rename World=>w9
     by_cases hltj:j<lc
     ·have HLTJ:=Hd hltj
      obtain⟨⟨cs,cset,cself⟩,hcj⟩:∃x,CL[j]?=some x:=⟨_,eG (by rw[HLC.out];exact hltj)⟩
      have hcst:cs≤g.top:=HCS.out _ (mG hcj);obtain⟨bd,od,chs,hAc,⟨hbdA,hbd⟩,d0,d1,d2,hchn,hchA⟩:=(HCY.out w9 HI9.out.mk_.chg).2.2.at_ hcj;subst hAc;simp only at d0 d2 hchA;obtain⟨SS,hSS⟩:∃x,(if cself then cset|||tS else cset)=x:=⟨_,rfl⟩
      obtain⟨p3,hp3,hp4⟩:∃p3,g.edgeRules L E base st at_ SS (cself&&te) nn (g.ofL cs) p1=some p3∧g.edgeComes L E base st at_ (tS,te) (CL.drop (j+1)) p3=some q:=by
       have h:=HEJ.out;rw[drop_more hcj]at h;unfold Gz.edgeComes at h;simp only at h;rw[hSS,HNNE.out]at h;split at h
       ·cases h
       ·rename_i p3 h3
        exact⟨p3,h3,h⟩
      have HP3:=Hd hp3;have HP4:=Hd hp4;have HCH:Hid (SetAt w9 chs cset∧chs.n=g.nt+1∧chs.wb<w3.heap.size):=Hd ⟨hchA.1,hchn,hchA.2.2.1⟩;have HCB:Hid (Blk (w9.alloc (.cells #[.int .i64 cs,chs.v,.bool cself] 242)) w9.heap.size 242 #[.int .i64 cs,chs.v,.bool cself]):=Hd (Blk.new w9 242 _);have HB10:=Hd (below_alloc1 w9 (.cells #[.int .i64 cs,chs.v,.bool cself] 242));unfold SetH.v at d1 HCB HB10;have HSSE:=Hd hSS;clear hcj hSS hp3 hp4 hchn hchA HEJ
      go_upto_if 96 with fail
      have HI10:=Hd (HI9.out.later HB10.out);have HK10:=Hd (HK9.out.trans (Keeps.of_below HB10.out));have HCH10:Hid (SetAt (w9.alloc (.cells #[.int .i64 cs,.pointer (some ⟨chs.h,0,none⟩),.bool cself] 242)) chs cset):=Hd (HCH.out.1.later HB10.out);generalize w9.alloc (.cells #[.int .i64 cs,.pointer (some ⟨chs.h,0,none⟩),.bool cself] 242)=W10 at *;generalize w9.heap.size=cb at *;clear d0 d1 d2 hbd hbdA;have HTB10:=Hd (HK10.out.blk HTB8.out (.inr (by decide)));have b0:W10.cell? ⟨cb,0,none⟩=some (.int .i64 cs):=Blk.cell HCB.out 0;have b1:W10.cell? ⟨cb,1,none⟩=some (.pointer (some ⟨chs.h,0,none⟩)):=Blk.cell HCB.out 1
      have b2':W10.cell? ⟨cb,2,none⟩=some (.bool cself):=Blk.cell HCB.out 2;have bl:=HCB.out.lt
      go_cut [13] (fun sv wx=>∃hh:SetH,sv=.pointer (some ⟨hh.h,0,none⟩)∧Hid (EdOk wx (g.nt+1) P1 (some hh) SS)∧Hid (Below W10.heap.size W10 wx))
      case first=>
       cases cself with
       | false=>
        have hss:cset=SS:=by have:=HSSE.out;simpa using this
        go_wp2_with fail
        go_meet
        refine⟨chs,rfl,Hd ⟨by rw[←hss];exact HCH10.out,HCH.out.2.1,fun p hp=>?_⟩,Hd (Below.refl _ _)⟩;have h1:=(HI10.out.mk_.new p hp).2;have h2:=HCH.out.2.2;omega
       | true=>
        have hss:cset|||tS=SS:=by have:=HSSE.out;simpa using this
        have HTW:=Hd (twin_any HCH10.out);have t0_:W10.cell? ⟨tb,0,none⟩=some (.pointer (some ⟨ht.h,0,none⟩)):=Blk.cell HTB10.out 0;have tl_:=HTB10.out.lt;unfold SetH.v at HTW;have HSSX:=Hd hss;clear hss;go_wp2_with (first
         | (
           go_at_call 156;refine HTW.out.mono ?_;rintro e w11 ⟨tw,rfl,hn11,hh11,hw11,hs11,hb11⟩
           have HB11:=Hd hb11;have HT11:=Hd (And.intro hn11 (And.intro hh11 (And.intro hw11 hs11)));have HOR:=Hd (orp_any hs11 ((HTY.out w11 (HI10.out.later hb11).mk_.chg).2.1) (by rw[HTN.out,hn11,HCH.out.2.1]));have t0b:w11.cell? ⟨tb,0,none⟩=some (.pointer (some ⟨ht.h,0,none⟩)):=Blk.cell (HTB10.out.below hb11 HTB10.out.lt) 0;unfold SetH.v at HOR;clear hb11 hn11 hh11 hw11 hs11)
         | (
           go_at_call 157;refine HOR.out.mono ?_;rintro e w12 ⟨rfl,hs12,hc12⟩
           have HS12:=Hd hs12;have HB12:Hid (Below W10.heap.size W10 w12):=Hd (HB11.out.trans (hc12.below HB11.out.size (fun k hk e=>by have e2:k=tw.wb:=e;have:=HT11.out.2.2.1;omega)));clear hs12 hc12))
        go_meet
        refine⟨tw,rfl,Hd ⟨by rw[←HSSX.out];exact HS12.out,by rw[HT11.out.1];exact HCH.out.2.1,fun p hp=>?_⟩,HB12⟩;obtain⟨T',hT'⟩:=HI10.out.mk_.fam.mem hp;have h1:=hT'.words.lt;have h2:=HT11.out.2.2.1;omega
      case rest=>
       obtain⟨hh,rfl,HEO,HB13⟩:=hcut;rename World=>w13
       have HI13:=Hd (HI10.out.later HB13.out);have HK13:=Hd (HK10.out.trans (Keeps.of_below HB13.out));have HCB13:=Hd (HCB.out.below HB13.out HCB.out.lt);have HTB13:=Hd (HTB10.out.below HB13.out HTB10.out.lt);clear b0 b1 b2' bl HI10 HK10 HCB HTB10 HCH10 HI9 HK9 HB10;obtain⟨bu,ou,cu,Au,cu2,huv,⟨hbuA,hbu⟩,hcu,hnu⟩:=HS.out.rls.atA (k:=cs) (by omega);subst huv;obtain⟨RL,hRLs⟩:∃l,g.ofL cs=l:=⟨_,rfl⟩
       have HRK:Hid (∀k∈RL,k<g.R.length):=Hd (fun k hk=>by rw[←hRLs]at hk;unfold Gz.ofL at hk;exact List.mem_range.1 (List.mem_filter.1 hk).1);rw[hRLs]at hcu hnu HP3;obtain⟨lr,hlr⟩:∃k,RL.length=k:=⟨_,rfl⟩
       have HLR:=Hd hlr;rw[hlr]at hcu hnu;have HUY:Hid (∀y:World,Chg (XL mb fb w3.heap.size) w3 y→(y.cell? ⟨bu,ou+cs,none⟩=some (.slice Au lr cu2)∧bu<y.heap.size)∧NumsA (Sx mb fb w3.heap.size) y (.slice Au lr cu2) RL):=Hd (fun y hy=>⟨⟨(hy.cell hbu hbuA.no _).trans hcu,ltL hbu hy.size⟩,hnu.chg hy (fun b hb=>hb.no)⟩);have hlrb:lr≤300:=by rw[←hlr,←hRLs];exact leT (ofL_len g cs) HS.out.gn.fit.nr
       clear hcu hnu hbu hbuA hRLs hlr;have z7:w13.cell? ⟨mb,7,none⟩=some (.slice (some ⟨bu,ou,none⟩) (g.top+1) cu):=HI13.out.mk_.cells.2.2.2.2.1;obtain⟨⟨k1,kl1⟩,-⟩:=HUY.out w13 HI13.out.mk_.chg;have b0:w13.cell? ⟨cb,0,none⟩=some (.int .i64 cs):=Blk.cell HCB13.out 0;have bl:=HCB13.out.lt;have ml13:=HI13.out.mk_.blk.lt;have hcs2:(cs:Int)<((g.top+1:Nat):Int):=by omega
       have hcs3:(cs:Int)<(g.top:Int)+1:=by omega
       go_upto_region 14 with fail
       go_quiet (fail)
       have HI14:=Hd (HI13.out.later (w2:=w13.drewN nq) ⟨rfl,rfl,rfl,leR _,fun _ _=>rfl⟩);have HK14:Hid (Keeps w1.heap.size TT W8 (w13.drewN nq)):=Hd (HK13.out.drewN nq);have HCB14:Hid (Blk (w13.drewN nq) cb 242 #[.int .i64 cs,.pointer (some ⟨chs.h,0,none⟩),.bool cself]):=Hd (HCB13.out.drewN nq);have HTB14:Hid (Blk (w13.drewN nq) tb 235 #[.pointer (some ⟨ht.h,0,none⟩),.bool te]):=Hd (HTB13.out.drewN nq);have HEO14:Hid (EdOk (w13.drewN nq) (g.nt+1) P1 (some hh) SS):=Hd (HEO.out.later ⟨rfl,rfl,rfl,leR _,fun _ _=>rfl⟩);generalize w13.drewN nq=W14 at *;clear z7 k1 kl1 b0 bl ml13 hcs2 hcs3 HI13 HK13 HCB13 HTB13 HEO HB13
       go_wp2_with fail
       go_loopg [113] lr (fun m ii wr=>∃(i:Nat) (av' ev':Value) (P':List SetH) (ED':List (Option SetH×Edge)) (FR':List (Value×List It)) (p':Gz.Eds),Hid (m+i=lr)∧i≤lr∧ii=.int .i64 i∧Hid (Itm w1 w3 w0 wr mb fb n c (.agg #[.slice AT g.nt cT,.slice AN g.nn cN,.slice AR g.R.length cR,.int .i64 g.s]) lv (.slice (some ⟨br,or_,none⟩) (g.R.length+1) cr) (.slice (some ⟨bt,ot,none⟩) (g.R.length+1) ct) (.slice (some ⟨bu,ou,none⟩) (g.top+1) cu) (.slice (some ⟨bc,oc,none⟩) (g.top+1) cc) bv av' ev' g base P' S ED' FR' FR0 st n0 p')∧Hid (g.edgeRules L E base st at_ SS (cself&&te) nn (RL.drop i) p'=some p3)∧Hid (Keeps w1.heap.size TT W14 wr)∧Hid (EdOk wr (g.nt+1) P' (some hh) SS))
       case atStart=>exact⟨0,_,_,_,_,_,_,Hd rfl,zeL _,rfl,HI14,HP3,Hd (Keeps.refl _ _ _),HEO14⟩
       case round=>
        obtain⟨i,av2,ev2,P2,ED2,FR2,p2,HMI,hi,rfl,HI15,HEI,HK15,HEO15⟩:=hrel;rename World=>w15
        by_cases hlti:i<lr
        ·obtain⟨k,hk⟩:∃x,RL[i]?=some x:=⟨_,eG (by rw[HLR.out];exact hlti)⟩
         have hkR:=HRK.out k (mG hk);obtain⟨bk,ok,hAu,hbkA,hbk,hck⟩:=(HUY.out w15 HI15.out.mk_.chg).2.at_ hk;subst hAu;have hdr:=drop_more hk;have HEDR:=Hd HEI.out;rw[hdr]at HEDR;clear hk hdr HEI;obtain⟨bk2,ok2,ck2,Ak2,ck3,hrv2,⟨hbk2A,hbk2⟩,hck2,hnk2⟩:=HS.out.rts.atA (k:=k) (by omega);have HRK2:Hid (∀y:World,Chg (XL mb fb w3.heap.size) w3 y→y.cell? ⟨bk2,ok2+k,none⟩=some (.slice Ak2 (g.right k).length ck3)∧bk2<y.heap.size):=Hd (fun y hy=>⟨(hy.cell hbk2 hbk2A.no _).trans hck2,ltL hbk2 hy.size⟩);have e1:bk2=br∧ok2=or_∧ck2=cr:=by cases hrv2;exact⟨rfl,rfl,rfl⟩
         obtain⟨rfl,rfl,rfl⟩:=e1;clear hrv2 hck2 hnk2 hbk2 hbk2A;obtain⟨kl,hkl⟩:∃x,(g.right k).length=x:=⟨_,rfl⟩
         rw[hkl]at HRK2;have HKL:=Hd hkl;clear hkl;have z5:w15.cell? ⟨mb,5,none⟩=some (.slice (some ⟨bk2,ok2,none⟩) (g.R.length+1) ck2):=HI15.out.mk_.cells.2.2.1;obtain⟨k1,kl1⟩:=HRK2.out w15 HI15.out.mk_.chg;have hkr:(k:Int)<((g.R.length+1:Nat):Int):=by omega
         have hkr2:(k:Int)<(g.R.length:Int)+1:=by omega
         have hii:(i:Int)<(lr:Int):=by omega
         obtain⟨r0,p4,hr0,hr2⟩:∃(r0:Nat) (p4:Nat×List It),((kl=0∧r0=(Gz.endL p2.1 p2.2.1 k).1∧p4=(Gz.endL p2.1 p2.2.1 k).2)∨(kl≠0∧g.toL L E base st (k,0)=some r0∧p4=(p2.1,p2.2.1)))∧g.edgeRules L E base st at_ SS (cself&&te) nn (RL.drop (i+1)) (p4.1,p4.2,if nn then p2.2.2 else p2.2.2++[⟨r0,at_,SS,cself&&te⟩])=some p3:=by
          have h:=HEDR.out;unfold Gz.edgeRules at h;rw[HKL.out]at h;cases kl with
          | zero=>exact⟨_,_,.inl ⟨rfl,rfl,rfl⟩,h⟩
          | succ kl=>
            simp only at h;split at h
            ·cases h
            ·rename_i t1 ht1
             exact⟨t1,(p2.1,p2.2.1),.inr ⟨Nat.succ_ne_zero _,ht1,rfl⟩,h⟩
         have HR0:=Hd hr0;have HR2:=Hd hr2;have hg4:=edgeRules_grows _ _ _ hr2;have hg5:=edgeComes_grows _ _ _ HP4.out;have hsz4:p4.1≤100000∧p4.2.length≤100000:=by have h1:=hg4.1;have h2:=hg4.2.1;have h3:=hg5.1;have h4:=hg5.2.1;simp only at h1 h2;omega
         have hez:(if nn then p2.2.2 else p2.2.2++[(⟨r0,at_,SS,cself&&te⟩:Edge)]).length≤1000000:=by have h1:=hg4.2.2;have h2:=hg5.2.2;simp only at h1;omega
         have HSZ:=Hd (And.intro hsz4 hez);have HLTI:=Hd hlti;clear hr0 hr2 hg4 hg5 hsz4 hez HEDR
         go_upto_if 125 with fail
         go_cut [16] (fun tv wx=>∃(av':Value) (P':List SetH) (FR':List (Value×List It)),tv=.int .i64 r0∧Hid (Itm w1 w3 w0 wx mb fb n c (.agg #[.slice AT g.nt cT,.slice AN g.nn cN,.slice AR g.R.length cR,.int .i64 g.s]) lv (.slice (some ⟨bk2,ok2,none⟩) (g.R.length+1) ck2) (.slice (some ⟨bt,ot,none⟩) (g.R.length+1) ct) (.slice (some ⟨bu,ou,none⟩) (g.top+1) cu) (.slice (some ⟨bc,oc,none⟩) (g.top+1) cc) bv av' ev2 g base P' S ED2 FR' FR0 st n0 (p4.1,p4.2,p2.2.2))∧Hid (Keeps w1.heap.size TT w15 wx)∧Hid (EdOk wx (g.nt+1) P' (some hh) SS))
         case first=>
          by_cases hk0:kl=0
          · obtain⟨rfl,rfl⟩:r0=(Gz.endL p2.1 p2.2.1 k).1∧p4=(Gz.endL p2.1 p2.2.1 k).2:=by
             rcases HR0.out with h|h
             ·exact h.2
             ·exact absurd hk0 h.1
            have hki:((kl:Int)==0)=true:=by rw[hk0];rfl
            have hz:=HSZ.out.1;have hge:=endL_grows p2.1 p2.2.1 k;have HEND:=Hd (HI15.out.mend HS.out.gn hst (by omega) (by omega) k);clear hz hge;clear hk0;go_wp2_with (
               go_at_call 158;refine HEND.out.mono ?_;rintro e w16 ⟨rfl,av3,P3,FR3,h1,h2,h3⟩
               have H1:=Hd h1;have H2:=Hd h2;have H3:=Hd h3;clear h1 h2 h3)
            go_meet
            exact⟨av3,P3,FR3,rfl,H1,Hd (H2.out.mono (leR _) (fun t ht=>by simp at ht;rcases ht with rfl|rfl|rfl|rfl<;>decide)),Hd (H3.out _ _ HEO15.out)⟩
          · obtain⟨hto,rfl⟩:g.toL L E base st (k,0)=some r0∧p4=(p2.1,p2.2.1):=by
             rcases HR0.out with h|h
             ·exact absurd h.1 hk0
             ·exact h.2
            have hki:((kl:Int)==0)=false:=by rw[bN];omega
            have HTO2:Hid (Calls Tryz.prog 154 #[.pointer (some ⟨mb,0,none⟩),.int .i64 st,.agg #[.int .i64 k,.int .i64 0]] w15 fun e w'=>e=.returned (.int .i64 r0)∧Below w15.heap.size w15 w'):=Hd (by
             have hm:=HI15.out.mk_;obtain⟨⟨y0,y1,y2,y3⟩,y4,y5,y6,y7,y8,y9,y10,y11,y12⟩:=hm.cells;have hB:Nums w15 bv base:=nums_own hm.bas (by have h1:=HSM.out.1;have h2:=HS.out.aut.len.1;have h3:=HS.out.aut.small;omega)
             exact toN_any (A:=Sx mb fb w3.heap.size) (V:=V) (L:=L) (E:=E) (base:=base) (g:=g) (x:=(k,0)) y4 y5 y9 (HS.out.aut.later hm.below) (HXL.out w15 hm.chg).1 hB HSM.out.1 (by simp only;omega) (by simp only;rw[HKL.out];omega) (by simp) hstL hto (toL_le HSM.out hto))
            clear hk0 hto;go_wp2_with (
               go_at_call 154;refine HTO2.out.mono ?_;rintro e w16 ⟨rfl,hb16⟩
               have HB16:=Hd hb16;clear hb16)
            go_meet
            exact⟨av2,P2,FR2,rfl,Hd (HI15.out.later HB16.out),Hd (Keeps.of_below HB16.out),Hd (HEO15.out.later HB16.out)⟩
         case rest=>
          obtain⟨av3,P3,FR3,rfl,HI17,HK17,HEO17⟩:=hcut;rename World=>w17
          clear z5 k1 kl1 hkr hkr2;cases nn with
          | true=>
            go_wp2_with fail
            go_roundg (lr-(i+1))
            case measure=>have:=HMI.out;omega
            case rel=>exact⟨i+1,av3,ev2,P3,ED2,FR3,(p4.1,p4.2,p2.2.2),Hd (by have:=HMI.out;have:=HLTI.out;omega),by have:=HLTI.out;omega,by go_num,HI17,HR2,Hd (HK15.out.trans HK17.out),HEO17⟩
          | false=>
            have HCB17:=Hd ((HK15.out.trans HK17.out).blk HCB14.out (.inr (by decide)));have HTB17:=Hd ((HK15.out.trans HK17.out).blk HTB14.out (.inr (by decide)));obtain⟨Ae2,ce2,hev2⟩:=own_shape2 HI17.out.mk_.edges;subst hev2;obtain⟨ne2,hne2⟩:∃k,ED2.length=k:=⟨_,rfl⟩
            have HNE2:=Hd hne2;have hel2:ne2≤1000000:=by have h1:=HSZ.out.2;have h2:=congrArg List.length HI17.out.eds;rw[lM,hne2]at h2;simp only[Bool.false_eq_true,if_false,lnA,List.length_singleton]at h1 h2;omega
            have z11:w17.cell? ⟨mb,11,none⟩=some (.slice Ae2 ne2 ce2):=by rw[←hne2];exact HI17.out.mk_.cells.2.2.2.2.2.2.2.2.1
            have HEDG:Hid (w17.ownsRow w3.heap.size 240 4 (.slice Ae2 ne2 ce2) ne2 (ED2.flatMap edC)):=Hd (by have h:=HI17.out.mk_.edges;rw[hne2]at h;exact h);have ml17:=HI17.out.mk_.blk.lt;have cl17:=HCB17.out.lt;have tl17:=HTB17.out.lt;have t1_:w17.cell? ⟨tb,1,none⟩=some (.bool te):=Blk.cell HTB17.out 1;have HW17:=Hd HI17.out.mk_.chg.size;clear hne2;cases cself with
            | true=>
             have c2_:w17.cell? ⟨cb,2,none⟩=some (.bool true):=Blk.cell HCB17.out 2;have HSB22:Hid (∀Y,Below w17.heap.size w17 Y→(fun(v:World)=>v.cell? ⟨mb,11,none⟩=some (.slice Ae2 ne2 ce2)∧v.cell? ⟨cb,2,none⟩=some (.bool true)∧v.cell? ⟨tb,1,none⟩=some (.bool te)) Y):=Hd (fun Y hy=>⟨(hy.cell (p:=⟨mb,11,none⟩) ml17).trans z11,(hy.cell (p:=⟨cb,2,none⟩) cl17).trans c2_,(hy.cell (p:=⟨tb,1,none⟩) tl17).trans t1_⟩);go_upto_region 22 with fail
             refine wp_regionK 19 (fun(v:World)=>v.cell? ⟨mb,11,none⟩=some (.slice Ae2 ne2 ce2)∧v.cell? ⟨cb,2,none⟩=some (.bool true)∧v.cell? ⟨tb,1,none⟩=some (.bool te)) (by kernel_rfl) ?_;have hHeld:(fun(v:World)=>v.cell? ⟨mb,11,none⟩=some (.slice Ae2 ne2 ce2)∧v.cell? ⟨cb,2,none⟩=some (.bool true)∧v.cell? ⟨tb,1,none⟩=some (.bool te)) w17.drew:=⟨z11,c2_,t1_⟩
             refine takeQ 0 hHeld ?_;simp only[setS,setZ];refine takeQ 1 hHeld ?_;simp only[setS,setZ];refine takeQ 2 hHeld ?_;simp only[setS,setZ];refine takeQ 3 hHeld ?_;simp only[setS,setZ];refine takeQ 4 hHeld ?_;simp only[setS,setZ];refine takeQ 5 hHeld ?_;simp only[setS,setZ];refine takeQ 6 hHeld ?_;simp only[setS,setZ];refine takeQ 7 hHeld ?_;simp only[setS,setZ];refine takeQ 8 hHeld ?_;simp only[setS,setZ];refine takeQ 9 hHeld ?_;simp only[setS,setZ];refine takeQ 10 hHeld ?_;simp only[setS,setZ];refine takeQ 11 hHeld ?_;simp only[setS,setZ];refine takeQ 12 hHeld ?_;simp only[setS,setZ]
             refine takeQ 13 hHeld ?_;simp only[setS,setZ];refine takeQ 14 hHeld ?_;simp only[setS,setZ];clear hHeld;refine nextK 15 (by kernel_rfl) rfl rfl (fun K hK=>?_);go_simp;refine hK.out _ _ (fun _=>HSB22.out _ (((Below.refl _ w17).alloc (leR _) _).drew)) ?_;clear hK K;refine nextKv 16 (by kernel_rfl) rfl rfl rfl (fun K hK=>?_);refine wp_app ElEdge (.tmp 141) (.tmp 152) rfl (base:=w3.heap.size) (n:=ne2) (m:=1) (N:=ne2+1) (v:=.slice Ae2 ne2 ce2) (src:=.slice (some ⟨w17.heap.size,0,none⟩) 1 1) (xs:=ED2.flatMap edC) (news:=edC (some hh,⟨r0,at_,SS,true&&te⟩)) rfl rfl (own_below (HEDG.out.alloc _) ((Below.refl _ _).drew)) (SrcOK.blk (c:=1) (cs:=edC (some hh,⟨r0,at_,SS,true&&te⟩)) (Blk.drew (Blk.new w17 240 _)) rfl (fun u hu=>by unfold edC hV SetH.v at hu;simp at hu;rcases hu with rfl|rfl|rfl|rfl<;>rfl)) rfl (by unfold maxLen;omega) (by omega) (by have:=HW17.out;simp;omega) ?_
             intro A18 c18 w18 q1 q2 q3;have HED18:=Hd (HI17.out.edged (((Below.refl _ w17).alloc (leR _) (.cells #[.int .i64 (r0:Nat),.int .i64 (at_:Nat),.pointer (some ⟨hh.h,0,none⟩),.bool (true&&te)] 240)).drew) (x:=(some hh,⟨r0,at_,SS,true&&te⟩)) (A:=A18) (c2:=c18) HEO17.out (by rw[HNE2.out];exact q1) q2);rw[HNE2.out]at HED18;have HMB18:Hid (Blk w18 mb 192 _):=Hd (q2.blk (Blk.drew (HI17.out.mk_.blk.alloc _)) (.inr (by decide)));have y11:w18.cell? ⟨mb,11,none⟩=some (.slice Ae2 ED2.length ce2):=Blk.cell HMB18.out 11;rw[HNE2.out]at y11;have yf:=Blk.frozen HMB18.out 11;have yl:=HMB18.out.lt
             have y2:w18.cell? ⟨cb,2,none⟩=some (.bool true):=Blk.cell (q2.blk (Blk.drew (HCB17.out.alloc _)) (.inr (by decide))) 2;have y3:w18.cell? ⟨tb,1,none⟩=some (.bool te):=Blk.cell (q2.blk (Blk.drew (HTB17.out.alloc _)) (.inr (by decide))) 1;have HEO18:Hid (EdOk (w18.setCell ⟨mb,11,none⟩ (.slice A18 (ne2+1) c18)) (g.nt+1) P3 (some hh) SS):=Hd (HEO17.out.keeps HED18.out.2 (by decide) (by decide));clear q1 q2 q3;refine hK.out _ _ (fun _=>⟨y11,y2,y3⟩) ?_;clear hK K;simp only[List.set_cons_succ,List.set_cons_zero];refine nextK 17 (by kernel_rfl) rfl rfl (fun K hK=>?_);go_simp;refine hK.out _ _ (fun _=>⟨y11,y2,y3⟩) ?_
             clear hK K;refine nextK 18 (by kernel_rfl) rfl rfl (fun K hK=>?_);go_simp;refine hK.out _ _ (fun _=>⟨y11,y2,y3⟩) ?_;clear hK K;refine nextK 19 (by kernel_rfl) rfl rfl (fun K hK=>?_);go_simp;refine hK.out _ _ (fun h=>absurd rfl h) ?_;clear hK K;refine doneK (by kernel_rfl) ?_ _;go_wp2_with fail
             go_roundg (lr-(i+1))
             case measure=>have:=HMI.out;omega
             case rel=>exact⟨i+1,av3,_,P3,_,FR3,_,Hd (by have:=HMI.out;have:=HLTI.out;omega),by have:=HLTI.out;omega,by go_num,Hd HED18.out.1,HR2,Hd ((HK15.out.trans HK17.out).trans (HED18.out.2.mono (leR _) (fun t ht=>by simp at ht;rcases ht with rfl|rfl<;>decide))),HEO18⟩
            | false=>
             have c2_:w17.cell? ⟨cb,2,none⟩=some (.bool false):=Blk.cell HCB17.out 2;have HSB22:Hid (∀Y,Below w17.heap.size w17 Y→(fun(v:World)=>v.cell? ⟨mb,11,none⟩=some (.slice Ae2 ne2 ce2)∧v.cell? ⟨cb,2,none⟩=some (.bool false)∧v.cell? ⟨tb,1,none⟩=some (.bool te)) Y):=Hd (fun Y hy=>⟨(hy.cell (p:=⟨mb,11,none⟩) ml17).trans z11,(hy.cell (p:=⟨cb,2,none⟩) cl17).trans c2_,(hy.cell (p:=⟨tb,1,none⟩) tl17).trans t1_⟩);go_upto_region 22 with fail
             refine wp_regionK 19 (fun(v:World)=>v.cell? ⟨mb,11,none⟩=some (.slice Ae2 ne2 ce2)∧v.cell? ⟨cb,2,none⟩=some (.bool false)∧v.cell? ⟨tb,1,none⟩=some (.bool te)) (by kernel_rfl) ?_;have hHeld:(fun(v:World)=>v.cell? ⟨mb,11,none⟩=some (.slice Ae2 ne2 ce2)∧v.cell? ⟨cb,2,none⟩=some (.bool false)∧v.cell? ⟨tb,1,none⟩=some (.bool te)) w17.drew:=⟨z11,c2_,t1_⟩
             refine takeQ 0 hHeld ?_;simp only[setS,setZ];refine takeQ 1 hHeld ?_;simp only[setS,setZ];refine takeQ 2 hHeld ?_;simp only[setS,setZ];refine takeQ 3 hHeld ?_;simp only[setS,setZ];refine takeQ 4 hHeld ?_;simp only[setS,setZ];refine takeQ 5 hHeld ?_;simp only[setS,setZ];refine takeQ 6 hHeld ?_;simp only[setS,setZ];refine takeQ 7 hHeld ?_;simp only[setS,setZ];refine takeQ 8 hHeld ?_;simp only[setS,setZ];refine takeQ 9 hHeld ?_;simp only[setS,setZ];refine takeQ 10 hHeld ?_;simp only[setS,setZ];refine takeK 11 rfl (by kernel_rfl) (by kernel_rfl) (by kernel_rfl) (by kernel_rfl) (fun _ _ _ h=>h) (Or.inr ⟨by rfl,rfl⟩) hHeld rfl ?rf11
             simp only[List.set_cons_succ,List.set_cons_zero];refine takeK 12 rfl (by kernel_rfl) (by kernel_rfl) (by kernel_rfl) (by kernel_rfl) (fun _ _ _ h=>h) (Or.inr ⟨by rfl,rfl⟩) hHeld rfl ?rf12;simp only[List.set_cons_succ,List.set_cons_zero];refine takeQ 13 hHeld ?_;simp only[setS,setZ];refine takeQ 14 hHeld ?_;simp only[setS,setZ];clear hHeld;refine nextK 15 (by kernel_rfl) rfl rfl (fun K hK=>?_);go_simp;refine hK.out _ _ (fun _=>HSB22.out _ (((Below.refl _ w17).alloc (leR _) _).drew)) ?_;clear hK K;refine nextKv 16 (by kernel_rfl) rfl rfl rfl (fun K hK=>?_);refine wp_app ElEdge (.tmp 141) (.tmp 152) rfl (base:=w3.heap.size) (n:=ne2) (m:=1) (N:=ne2+1) (v:=.slice Ae2 ne2 ce2) (src:=.slice (some ⟨w17.heap.size,0,none⟩) 1 1) (xs:=ED2.flatMap edC) (news:=edC (some hh,⟨r0,at_,SS,false&&te⟩)) rfl rfl (own_below (HEDG.out.alloc _) ((Below.refl _ _).drew)) (SrcOK.blk (c:=1) (cs:=edC (some hh,⟨r0,at_,SS,false&&te⟩)) (Blk.drew (Blk.new w17 240 _)) rfl (fun u hu=>by unfold edC hV SetH.v at hu;simp at hu;rcases hu with rfl|rfl|rfl|rfl<;>rfl)) rfl (by unfold maxLen;omega) (by omega) (by have:=HW17.out;simp;omega) ?_
             intro A18 c18 w18 q1 q2 q3;have HED18:=Hd (HI17.out.edged (((Below.refl _ w17).alloc (leR _) (.cells #[.int .i64 (r0:Nat),.int .i64 (at_:Nat),.pointer (some ⟨hh.h,0,none⟩),.bool (false&&te)] 240)).drew) (x:=(some hh,⟨r0,at_,SS,false&&te⟩)) (A:=A18) (c2:=c18) HEO17.out (by rw[HNE2.out];exact q1) q2);rw[HNE2.out]at HED18;have HMB18:Hid (Blk w18 mb 192 _):=Hd (q2.blk (Blk.drew (HI17.out.mk_.blk.alloc _)) (.inr (by decide)));have y11:w18.cell? ⟨mb,11,none⟩=some (.slice Ae2 ED2.length ce2):=Blk.cell HMB18.out 11;rw[HNE2.out]at y11;have yf:=Blk.frozen HMB18.out 11;have yl:=HMB18.out.lt
             have y2:w18.cell? ⟨cb,2,none⟩=some (.bool false):=Blk.cell (q2.blk (Blk.drew (HCB17.out.alloc _)) (.inr (by decide))) 2;have y3:w18.cell? ⟨tb,1,none⟩=some (.bool te):=Blk.cell (q2.blk (Blk.drew (HTB17.out.alloc _)) (.inr (by decide))) 1;have HEO18:Hid (EdOk (w18.setCell ⟨mb,11,none⟩ (.slice A18 (ne2+1) c18)) (g.nt+1) P3 (some hh) SS):=Hd (HEO17.out.keeps HED18.out.2 (by decide) (by decide));clear q1 q2 q3;refine hK.out _ _ (fun _=>⟨y11,y2,y3⟩) ?_;clear hK K;simp only[List.set_cons_succ,List.set_cons_zero];refine nextK 17 (by kernel_rfl) rfl rfl (fun K hK=>?_);go_simp;refine hK.out _ _ (fun _=>⟨y11,y2,y3⟩) ?_
             clear hK K;refine nextK 18 (by kernel_rfl) rfl rfl (fun K hK=>?_);go_simp;refine hK.out _ _ (fun _=>⟨y11,y2,y3⟩) ?_;clear hK K;refine nextK 19 (by kernel_rfl) rfl rfl (fun K hK=>?_);go_simp;refine hK.out _ _ (fun h=>absurd rfl h) ?_;clear hK K;refine doneK (by kernel_rfl) ?_ _;go_wp2_with fail
             go_roundg (lr-(i+1))
             case measure=>have:=HMI.out;omega
             case rel=>exact⟨i+1,av3,_,P3,_,FR3,_,Hd (by have:=HMI.out;have:=HLTI.out;omega),by have:=HLTI.out;omega,by go_num,Hd HED18.out.1,HR2,Hd ((HK15.out.trans HK17.out).trans (HED18.out.2.mono (leR _) (fun t ht=>by simp at ht;rcases ht with rfl|rfl<;>decide))),HEO18⟩
        ·obtain rfl:i=lr:=by omega
         have HE3:Hid (p2=p3):=Hd (by have h:=HEI.out;rw[List.drop_eq_nil_of_le (by rw[HLR.out];exact leR _)]at h;unfold Gz.edgeRules at h;exact Option.some.inj h)
         rw[HE3.out]at HI15;go_wp2_with fail
         go_roundg (lc-(j+1))
         case measure=>have:=HMJ.out;omega
         case rel=>exact⟨j+1,av2,ev2,P2,ED2,FR2,p3,Hd (by have:=HMJ.out;have:=HLTJ.out;omega),by have:=HLTJ.out;omega,by go_num,HI15,HP4,Hd (HK14.out.trans HK15.out)⟩
     ·obtain rfl:j=lc:=by omega
      have HE4:Hid (p1=q):=Hd (by have h:=HEJ.out;rw[List.drop_eq_nil_of_le (by rw[HLC.out];exact leR _)]at h;unfold Gz.edgeComes at h;exact Option.some.inj h)
      rw[HE4.out]at HI9;go_wp2_with fail
      go_end0
      exact⟨rfl,_,_,_,_,_,HI9.out⟩
end
end Go.Proofs.YthaacmablcpdfaaGreatDoor
