/- The place of an item in a state. -/
import Derived.Test.YthaacmablcpdfaaGreatDoorZbj
import Derived.Test.YthaacmablcpdfaaGreatDoorZar
import Derived.Test.YthaacmablcpdfaaGreatDoorNm
namespace Go.Proofs.YthaacmablcpdfaaGreatDoor
open Go.RowKit
set_option linter.unusedVariables false
set_option maxRecDepth 100000
theorem find_at{l:List It}{x:It}{j:Nat}(h:l.findIdx? (fun y=>x==y)=some j):l[j]?=some x∧∀i,i<j→l[i]?≠some x:=by
 obtain⟨h1,h2,h3⟩:=List.findIdx?_eq_some_iff_getElem.1 h;refine⟨?_,fun i hi e=>?_⟩
 ·rw[eG h1]
  have h4:x=l[j]:=by simpa using h2
  rw[←h4]
 ·have h4:=h3 i hi
  obtain⟨h5,h6⟩:=sG.1 e;rw[h6]at h4;simp at h4
theorem placeN_any{w:World}{mb:Nat}{lv bv:Value}{V:List (Value×Value)}{L E:List (List It)}{base:List Nat}(c4:w.cell? ⟨mb,4,none⟩=some lv)(c9:w.cell? ⟨mb,9,none⟩=some bv)(hA:Aut w lv V L E)(hB:Nums w bv base)(hlb:base.length=L.length){i:Nat}{x:It}{r:Nat}(hr:Gz.placeL L base i x=some r)(hr2:r≤1000000) :
  Calls Tryz.prog 200 #[.pointer (some ⟨mb,0,none⟩),.int .i64 i,itV x] w fun e w'=>e=.returned (.int .i64 r)∧Below w.heap.size w w':=by
 obtain⟨⟨AL,cL,rfl,hcap,hc⟩,⟨hl1,hl2⟩,h2,h3,h4⟩:=hA;unfold Gz.placeL at hr;obtain⟨j,hj,hjr⟩:=Option.map_eq_some_iff.1 hr;have hi:i<L.length:=by
  rcases Nat.lt_or_ge i L.length with h|h
  ·exact h
  ·rw[dG,nG h]at hj
   simp at hj
 obtain⟨l,hl⟩:∃l,L[i]?=some l:=⟨_,eG hi⟩
 obtain⟨xv,hxv⟩:∃x,V[i]?=some x:=⟨_,eG (by omega)⟩
 obtain⟨bi,hbi⟩:∃x,base[i]?=some x:=⟨_,eG (by omega)⟩
 rw[dG,hl]at hj;rw[dG,hbi]at hjr;simp only[Option.getD_some]at hj hjr;obtain⟨hj1,hj2⟩:=find_at hj;have hjl:=(sG.1 hj1).1;obtain⟨b,off,rfl,hb,c0,c1⟩:=hc i xv hxv;obtain⟨⟨Ai,ci,hvi,hci⟩,hsi,hri⟩:=h2 i xv l hxv hl;rw[hvi]at c0;obtain⟨⟨AB,cB,hbv,hcB⟩,_,_⟩:=hB;obtain⟨bb,ob,hAB,hbb,hcb⟩:=hcB i bi hbi;subst hbv;subst hAB;have hmb:=World.block_lt_of_cell? w _ c4;have HJ1:=Hd hj1;have HJ2:=Hd hj2;have HC:=Hd hci;have HR:=Hd hjr;have HK:Hid (∀y,Below w.heap.size w y→y.cell? ⟨mb,9,none⟩=some (.slice (some ⟨bb,ob,none⟩) base.length cB)∧y.cell? ⟨bb,ob+i,none⟩=some (.int .i64 (bi:Nat))):=Hd (fun y hy=>⟨(hy.cell (p:=⟨mb,9,none⟩) hmb).trans c9,(hy.cell (p:=⟨bb,ob+i,none⟩) hbb).trans hcb⟩)
 have hi1:(i:Int)<(V.length:Int):=by omega
 have hi2:(i:Int)<(base.length:Int):=by omega
 have hll:j<1000001:=by omega
 obtain⟨xa,xb⟩:=x;have HXB:=Hd (Blk.new w 194 #[.int .i64 xa,.int .i64 xb]);have HBX:=Hd (below_alloc w (.cells #[.int .i64 xa,.int .i64 xb] 194));unfold itV;clear hc h2 h3 hr hj hj1 hj2 hci hri hjr hl hxv hbi hcB hvi hsi hcb c9 c1;generalize V.length=n at *;generalize base.length=nb at *;go_enter Tryz.func200,Tryz.ntmps200
 go_wp2_with fail
 generalize hW:w.alloc (.cells #[.int .i64 xa,.int .i64 xb] 194)=W at *;generalize hxb:w.heap.size=q at *;have HQ:=Hd (And.intro hW hxb);clear hW hxb;go_loopw [18] (fun ii wr=>∃k:Nat,k≤j∧ii=.int .i64 k∧Hid (Below W.heap.size W wr)) (fun ii _=>j+1-(intOf ii).toNat)
 case atStart=>exact⟨0,zeL _,rfl,Hd (Below.refl _ _)⟩
 case round=>
  obtain⟨k,hk,rfl,HB⟩:=hrel;obtain⟨⟨ya,yb⟩,hy⟩:∃y,l[k]?=some y:=⟨_,eG (by omega)⟩
  obtain⟨b2,off2,rfl,hb2,d0,d1⟩:=HC.out k _ hy;have HBW:Hid (Below q w wr):=Hd (HBX.out.trans (HB.out.mono (Nat.le_of_lt HXB.out.lt)));obtain⟨k9,kb⟩:=HK.out wr HBW.out;have HXR:=Hd (HXB.out.below HB.out HXB.out.lt);have x0:wr.cell? ⟨q,0,none⟩=some (.int .i64 xa):=Blk.cell HXR.out 0;have x1:wr.cell? ⟨q,1,none⟩=some (.int .i64 xb):=Blk.cell HXR.out 1;have xl:=Blk.lt HXR.out;have ml:mb<wr.heap.size:=World.block_lt_of_cell? wr _ k9;have bl:bb<wr.heap.size:=World.block_lt_of_cell? wr _ kb;have heq:=fun z=>item_eq (xa,xb) (ya,yb) z
  have hgd:=fun z op a b=>item_guard op a b (xa,xb) (ya,yb) z
  unfold itV at heq hgd;simp only at d0 d1 heq hgd;have d0:=(HBW.out.cell (p:=⟨b2,off2+k*2,none⟩) hb2).trans d0;have d1:=(HBW.out.cell (p:=⟨b2,off2+k*2+1,none⟩) hb2).trans d1;by_cases hkj:k=j
  ·have hxy:((xa,xb):It)=(ya,yb):=by rw[hkj,HJ1.out]at hy;exact Option.some.inj hy
   have hq1:decide (((xa,xb):It)=(ya,yb))=true:=decide_eq_true hxy;rw[hq1]at heq;have hsum:IntKind.i64.wrap ((bi:Int)+(k:Int))=(r:Int):=by have:=HR.out;rw[IntKind.wrap_i64];omega
   clear hy hq1 hxy hkj;go_wp2_with fail
   go_ret;exact⟨rfl,by rw[HQ.out.2];exact HBW.out.trans ((below_alloc _ _).mono (by have:=HBW.out.size;have:=HXB.out.lt;have:=HB.out.size;omega))⟩
  ·have hxy:¬((xa,xb):It)=(ya,yb):=fun e=>HJ2.out k (by omega) (by rw[e];exact hy)
   have hq1:decide (((xa,xb):It)=(ya,yb))=false:=decide_eq_false hxy;rw[hq1]at heq;clear hy hq1 hxy;go_wp2_with fail
   go_roundw
   case rel=>exact⟨k+1,by omega,by go_num,Hd (HB.out.trans ((below_alloc _ _).mono HB.out.size))⟩
   case measure=>simp[intOf];omega
theorem gotoI_of{t:List It}{s:Nat}{p:It}(h:t.find? (fun x=>x.1==s)=some p):gotoI t s=(p.2:Int):=by unfold gotoI;rw[h]
theorem placeL_lt{L:List (List It)}{base:List Nat}{i:Nat}{x:It}{r:Nat}(h:Gz.placeL L base i x=some r):i<L.length:=by
 unfold Gz.placeL at h;obtain⟨j,hj,_⟩:=Option.map_eq_some_iff.1 h;rcases Nat.lt_or_ge i L.length with h|h
 ·exact h
 ·rw[dG,nG h]at hj
  simp at hj
theorem toN_any{w:World}{mb:Nat}{A:Nat→Prop}{lv bv rv:Value}{V:List (Value×Value)}{L E:List (List It)}{base:List Nat}{g:Gz}(c4:w.cell? ⟨mb,4,none⟩=some lv)(c5:w.cell? ⟨mb,5,none⟩=some rv)(c9:w.cell? ⟨mb,9,none⟩=some bv)(hA:Aut w lv V L E)(hR:RtsA A w rv (g.R.length+1) g.right)(hB:Nums w bv base)(hlb:base.length=L.length){i:Nat}{x:It}{r:Nat}
  (hx1:x.1≤g.R.length) (hx2:x.2<(g.right x.1).length) (hx3:x.2≤1000000) (hi:i<L.length) (hr:Gz.toL g L E base i x=some r) (hr2:r≤1000000) :
  Calls Tryz.prog 154 #[.pointer (some ⟨mb,0,none⟩),.int .i64 i,itV x] w fun e w'=>e=.returned (.int .i64 r)∧Below w.heap.size w w':=by
 unfold Gz.toL at hr;cases hq:(E.getD i []).find? (fun t=>t.1==g.next x) with
 | none=>rw[hq]at hr;cases hr
 | some p=>
  rw[hq]at hr;simp only at hr;have hgo:=gotoI_of hq;have HGO:Hid (∀y,Below w.heap.size w y→Calls Tryz.prog 28 #[lv,.int .i64 i,.int .i64 (g.next x)] y fun e w'=>e=.returned (.int .i64 p.2)∧Below y.heap.size y w'):=Hd (fun y hy=>by have h:=goto_any (hA.later hy) (i:=i) (s:=g.next x) (by rw[←hA.len.1];exact hi);rw[hgo]at h;exact h)
  have hmb:=World.block_lt_of_cell? w _ c4;have HPL:Hid (∀y,Below w.heap.size w y→Calls Tryz.prog 200 #[.pointer (some ⟨mb,0,none⟩),.int .i64 p.2,itV (x.1,x.2+1)] y fun e w'=>e=.returned (.int .i64 r)∧Below y.heap.size y w'):=Hd (fun y hy=>placeN_any ((hy.cell (p:=⟨mb,4,none⟩) hmb).trans c4) ((hy.cell (p:=⟨mb,9,none⟩) hmb).trans c9) (hA.later hy) (hB.later hy) hlb hr hr2);obtain⟨bR,oR,cR,Ad,c2,rfl,hbR,hcR,hnR⟩:=hR.at_ (k:=x.1) (by omega);obtain⟨s,hs⟩:∃s,(g.right x.1)[x.2]?=some s:=⟨_,eG hx2⟩
  have hsn:g.next x=s:=by unfold Gz.next;rw[dG,hs];rfl
  rw[hsn]at HGO;obtain⟨bS,oS,rfl,_,hbS,hcS⟩:=hnR.at_ hs;have hi1:(x.1:Int)<((g.R.length+1:Nat):Int):=by omega
  have hi2:(x.1:Int)<(g.R.length:Int)+1:=by omega
  have hi3:(x.2:Int)<((g.right x.1).length:Int):=by omega
  have hi4:IntKind.i64.wrap ((x.2:Int)+1)=(x.2:Int)+1:=by rw[IntKind.wrap_i64];omega
  obtain⟨xa,xb⟩:=x;simp only at *;generalize (g.right xa).length=rl at *;generalize g.R.length=nR at *;have HXB:=Hd (Blk.new w 194 #[.int .i64 xa,.int .i64 xb]);have HBX:=Hd (below_alloc w (.cells #[.int .i64 xa,.int .i64 xb] 194));obtain⟨AL,cL,hlv⟩:∃A c,lv=.slice A V.length c:=by obtain⟨⟨A,c,h,_⟩,_⟩:=hA;exact⟨A,c,h⟩
  subst hlv;unfold itV at HPL ⊢;simp only at HPL;clear hq hr hgo hsn hs hA hR hB hnR hlb c9 hx1 hx2 hi;generalize V.length=n at *;go_enter Tryz.func154,Tryz.ntmps154
  go_upto_region 1 with fail
  have x0:=Blk.cell HXB.out 0;have x1:=Blk.cell HXB.out 1;have xl:=Blk.lt HXB.out;simp at x0 x1 xl;go_quiet (fail)
  go_upto_region 2 with fail
  have HQ:Hid (Below w.heap.size w ((w.alloc (.cells #[.int .i64 xa,.int .i64 xb] 194)).drewN nq)):=Hd ⟨rfl,rfl,rfl,by simp[World.drewN],fun k hk=>Below.heap_alloc _ _ _ hk⟩;have HXQ:Hid (Blk ((w.alloc (.cells #[.int .i64 xa,.int .i64 xb] 194)).drewN nq) w.heap.size 194 #[.int .i64 xa,.int .i64 xb]):=Hd (HXB.out.drewN nq);clear x0 x1 xl c5 hcR hcS;generalize (w.alloc (.cells #[.int .i64 xa,.int .i64 xb] 194)).drewN nq=W at *;have HSY:Hid (∀y,Below W.heap.size W y→y.cell? ⟨mb,4,none⟩=some (.slice AL n cL)∧y.cell? ⟨w.heap.size,0,none⟩=some (.int .i64 xa)∧y.cell? ⟨w.heap.size,1,none⟩=some (.int .i64 xb)):=Hd (fun y hy=>by have hb:=HXQ.out.below hy HXQ.out.lt;exact⟨((HQ.out.trans (hy.mono HQ.out.size)).cell (p:=⟨mb,4,none⟩) hmb).trans c4,hb.cell 0,hb.cell 1⟩)
  have HD:Hid (Below W.heap.size W W.drew):=Hd ((Below.refl _ W).drew);clear c4
  go_region_held3 (fun v=>v.cell? ⟨mb,4,none⟩=some (.slice AL n cL)∧v.cell? ⟨w.heap.size,0,none⟩=some (.int .i64 xa)∧v.cell? ⟨w.heap.size,1,none⟩=some (.int .i64 xb))
   (first|exact HSY.out _ HD.out|exact HSY.out _ HB3.out|exact HSY.out _ HB4.out)
   (first
    | (
     go_at_call 28;refine(HGO.out W.drew (HQ.out.trans (HD.out.mono HQ.out.size))).mono ?_;rintro e w3 ⟨rfl,hb3⟩
     have HB3:=Hd (HD.out.trans hb3);clear hb3)
    | (
     go_at_call 200;refine(HPL.out _ (HQ.out.trans (HB3.out.mono HQ.out.size))).mono ?_;rintro e w4 ⟨rfl,hb4⟩
     have HB4:=Hd (HB3.out.trans (hb4.mono HB3.out.size));clear hb4))
  go_wp2_with fail
  go_ret;exact⟨rfl,HQ.out.trans (HB4.out.mono HQ.out.size)⟩
end Go.Proofs.YthaacmablcpdfaaGreatDoor
