/- What stands behind a nonterminal goes to its rul. -/
import Derived.Test.YthaacmablcpdfaaGreatDoorZbb
import Derived.Test.YthaacmablcpdfaaGreatDoorNm
namespace Go.Proofs.YthaacmablcpdfaaGreatDoor
open Go.RowKit
set_option linter.unusedVariables false
set_option maxRecDepth 100000
def HandEnd(w:World)(ob o:Nat)(hto:SetH)(f:Bool)(r:Come×Bool)(e:Ending)(w':World):Prop:=
 e=.returned (.bool r.2)∧∃w3,Chg (fun k=>k=hto.wb) w w3∧SetAt w3 hto r.1.set∧((w'=w3∧r.1.self=f)∨(w'=w3.setCell ⟨ob,o+2,none⟩ (.bool true)∧r.1.self=true))
theorem Chg.cell{X:Nat→Prop}{w w':World}(hc:Chg X w w'){b:Nat}(hb:b<w.heap.size)(hx:¬X b)(j:Nat):w'.cell? ⟨b,j,none⟩=w.cell? ⟨b,j,none⟩:=World.cell?_of_block (hc.block b hb hx)
theorem Chg.froz{X:Nat→Prop}{w w':World}(hc:Chg X w w'){b:Nat}(hb:b<w.heap.size)(hx:¬X b)(j:Nat):w'.frozen? ⟨b,j,none⟩=w.frozen? ⟨b,j,none⟩:=World.frozen?_of_block (hc.block b hb hx)
theorem handC_none{xset:Nat}{c:Come}{own:Bool}{t:Nat×Bool}(h:xset=0):handC false xset c own t=(c,false):=by unfold handC;rw[if_pos ⟨rfl,h⟩]
theorem handC_one{xs:Bool}{xset:Nat}{c:Come}{own:Bool}{S:Nat}(h:¬(xs=false∧xset=0)):handC xs xset c own (S,false)=(⟨c.s,c.set|||S,c.self⟩,(c.set|||S) != c.set):=by unfold handC;rw[if_neg h,if_pos rfl]
theorem handC_flag{xset:Nat}{c:Come}{own:Bool}{S:Nat}(hf:c.self=false):handC true xset c own (S,true)=(⟨c.s,(c.set|||S)|||(if own then c.set|||S else xset),true⟩,true):=by unfold handC;rw[if_neg (by simp),if_neg (by simp),if_pos ⟨rfl,hf⟩]
theorem handC_two{xs:Bool}{xset:Nat}{c:Come}{own:Bool}{S:Nat}(h:¬(xs=false∧xset=0))(hf:¬(xs=true∧c.self=false)):handC xs xset c own (S,true)=(⟨c.s,(c.set|||S)|||(if own then c.set|||S else xset),c.self⟩,(((c.set|||S)|||(if own then c.set|||S else xset)) != (c.set|||S))||((c.set|||S) != c.set)):=by unfold handC;rw[if_neg h,if_neg (by simp),if_neg hf]
set_option maxHeartbeats 2000000 in
theorem hand_any{w:World}{mp:Value}{ob o sx s2:Nat}{hx ht hto:SetH}{xs f emp own:Bool}{SX ST STo:Nat}(h1:SetAt w hx SX)(h2:SetAt w ht ST)(h3:SetAt w hto STo)(n1:hx.n=hto.n)(n2:ht.n=hto.n)
  (hown:if own then hx=hto else hx.wb≠hto.wb) (ht2:ht.wb≠hto.wb) (c1:w.cell? ⟨ob,o+1,none⟩=some hto.v) (c2:w.cell? ⟨ob,o+2,none⟩=some (.bool f)) (fz:w.frozen? ⟨ob,o+2,none⟩=false) (hob:ob≠hto.wb) :
  Calls Tryz.prog 199 #[mp,.agg #[.int .i64 sx,hx.v,.bool xs],.pointer (some ⟨ob,o,none⟩),.agg #[ht.v,.bool emp]] w (HandEnd w ob o hto f (handC xs SX ⟨s2,STo,f⟩ own (ST,emp))):=by
 have hobl:=World.block_lt_of_cell? w _ c1;have HX1:=Hd (Blk.new w 242 #[.int .i64 sx,hx.v,.bool xs]);have HX2:=Hd (Blk.new (w.alloc (.cells #[.int .i64 sx,hx.v,.bool xs] 242)) 235 #[ht.v,.bool emp]);have HW:∃W,W=(w.alloc (.cells #[.int .i64 sx,hx.v,.bool xs] 242)).alloc (.cells #[ht.v,.bool emp] 235):=⟨_,rfl⟩
 have hbW:Below w.heap.size w ((w.alloc (.cells #[.int .i64 sx,hx.v,.bool xs] 242)).alloc (.cells #[ht.v,.bool emp] 235)):=(below_alloc1 w _).trans ((below_alloc1 _ _).mono (by simp));have HBW:=Hd hbW;have HS1:=Hd (h1.later hbW);have HS2:=Hd (h2.later hbW);have HS3:=Hd (h3.later hbW);have HO1:=Hd (fun y (a:SetAt y hto STo) (b:SetAt y ht ST)=>orp_any a b n2);have HO2:=Hd (fun y (T:Nat) (a:SetAt y hto T) (U:Nat) (b:SetAt y hx U)=>orp_any a b n1);have HNX:=Hd (fun y (a:SetAt y hx SX)=>next_any a (i0:=0) (by omega));obtain⟨q,hq,hq1,hq2⟩:∃q:Int,nextI hx.n SX 0=q∧(SX=0→q<0)∧(SX≠0→¬q<0):=⟨_,rfl,fun e=>by
  subst e;rw[nextI_none (fun j _ _=>Nat.zero_testBit j)];decide,fun e=>by
  rcases nextI_cases (n:=hx.n) (S:=SX) (hx.n-0) 0 rfl with⟨m,hm,_⟩|⟨_,hz⟩
  ·rw[hm];omega
  ·exfalso
   apply e;apply Nat.eq_of_testBit_eq;intro j;rw[Nat.zero_testBit];by_cases hj:j<hx.n
   ·exact hz j (zeL _) hj
   ·exact bit_high h1.fit (by omega)⟩
 simp only[hq]at HNX;have hwl:=h3.words.lt;have hxn:hx.h≠hto.wb:=h1.head_ne h3;have HNE:Hid (¬hto.X w.heap.size∧¬hto.X (w.heap.size+1)):=Hd ⟨fun e=>by have e2:w.heap.size=hto.wb:=e;omega,fun e=>by have e2:w.heap.size+1=hto.wb:=e;omega⟩;have HX1:=Hd (HX1.out.alloc (.cells #[ht.v,.bool emp] 235));clear hq hbW h1 h2 h3 HW HO1 HO2 hwl;cases xs with
 | false=>
  by_cases hz:SX=0
  ·rw[handC_none hz]
   have hq3:=hq1 hz;clear hq1 hq2;unfold SetH.v at *;go_enter Tryz.func199,Tryz.ntmps199
   go_wp2_with (go_at_call 155;refine(HNX.out _ HS1.out).mono ?_;rintro e w1 ⟨rfl,rfl⟩)
   go_ret;exact⟨rfl,_,Chg.of_below HBW.out,HS3.out,.inl ⟨rfl,rfl⟩⟩
  ·have hq3:=hq2 hz
   clear hq1 hq2;obtain⟨T,hT⟩:∃T,STo|||ST=T:=⟨_,rfl⟩
   obtain⟨b1,hb1⟩:∃b,(T != STo)=b:=⟨_,rfl⟩
   have HO1:=Hd (fun y (a:SetAt y hto STo) (b:SetAt y ht ST)=>orp_any a b n2);simp only[hT,hb1]at HO1;have HT:=Hd (And.intro hT hb1);clear hT hb1;cases emp with
   | false=>
    rw[handC_one (fun h=>hz h.2)];simp only;rw[HT.out.1,HT.out.2];unfold SetH.v at *;go_enter Tryz.func199,Tryz.ntmps199
    go_upto_region 3 with(go_at_call 155;refine(HNX.out _ HS1.out).mono ?_;rintro e w1 ⟨rfl,rfl⟩)
    generalize hW:(w.alloc (.cells #[.int .i64 sx,.pointer (some ⟨hx.h,0,none⟩),.bool false] 242)).alloc (.cells #[.pointer (some ⟨ht.h,0,none⟩),.bool false] 235)=W at *;have c1:=(HBW.out.cell (p:=⟨ob,o+1,none⟩) hobl).trans c1;have z0:=Blk.cell HX2.out 0;have z1:=Blk.cell HX2.out 1;have zl:=Blk.lt HX2.out;simp at z0 z1 zl;have HCW:=Hd (Chg.of_below (X:=fun k=>k=hto.wb) HBW.out);generalize hxb:w.heap.size=xb at *;have HXB:=Hd hxb;clear hW hxb;go_region_law (first|(
        go_simp;go_at_call 157;refine(HO1.out _ (HS3.out.later ((Below.refl _ W).drew)) (HS2.out.later ((Below.refl _ W).drew))).mono ?_;rintro e w3 ⟨rfl,hs3,hc3⟩;have z1_:=(hc3.cell (b:=xb+1) (w:=W.drew) zl (HNE.out.2) 1).trans z1;have HS4:=Hd hs3;have HC4:=Hd hc3;clear hs3 hc3))
    all_goals go_wp2_with fail
    all_goals go_ret
    all_goals exact⟨rfl,w3,HCW.out.next ((Chg.of_below ((Below.refl _ W).drew)).next HC4.out),HS4.out,.inl ⟨rfl,rfl⟩⟩
   | true=>
    obtain⟨U,hU⟩:∃U,(if own then T else SX)=U:=⟨_,rfl⟩
    obtain⟨b2,hb2⟩:∃b,(T|||U != T)=b:=⟨_,rfl⟩
    have HO2:=Hd (fun y (a:SetAt y hto T) (b:SetAt y hx U)=>orp_any a b n1);simp only[hb2]at HO2;have HU:Hid (∀y y',SetAt y hx SX→SetAt y' hto T→Chg hto.X y y'→SetAt y' hx U):=Hd (fun y y' a1 a2 a3=>by
     cases own with
     | true=>rw[if_pos rfl]at hU hown;rw[←hU,hown];exact a2
     | false=>rw[if_neg (by simp)]at hU hown;rw[←hU];exact a1.chg a3 hxn hown)
    have HB2:=Hd (And.intro hU hb2);clear hU hb2;cases b2<;>cases f
    all_goals (
     rw[handC_two (fun h=>hz h.2) (by simp)];simp only;rw[HT.out.1,HB2.out.1];rw[HB2.out.2,HT.out.2];unfold SetH.v at *;go_enter Tryz.func199,Tryz.ntmps199
     go_upto_region 3 with(go_at_call 155;refine(HNX.out _ HS1.out).mono ?_;rintro e w1 ⟨rfl,rfl⟩)
     generalize hW:(w.alloc (.cells #[.int .i64 sx,.pointer (some ⟨hx.h,0,none⟩),.bool false] 242)).alloc (.cells #[.pointer (some ⟨ht.h,0,none⟩),.bool true] 235)=W at *;have c1:=(HBW.out.cell (p:=⟨ob,o+1,none⟩) hobl).trans c1;have c2:=(HBW.out.cell (p:=⟨ob,o+2,none⟩) hobl).trans c2;have fz:=(World.frozen?_of_block (a:=⟨ob,o+2,none⟩) (HBW.out.block ob hobl)).trans fz;have hobW:ob<W.heap.size:=ltL hobl HBW.out.size;have z0:=Blk.cell HX2.out 0;have z1:=Blk.cell HX2.out 1;have zl:=Blk.lt HX2.out;have y1:=Blk.cell HX1.out 1;have y2:=Blk.cell HX1.out 2;have yl:=Blk.lt HX1.out;simp at z0 z1 zl y1 y2
     have HCW:=Hd (Chg.of_below (X:=fun k=>k=hto.wb) HBW.out);generalize hxb:w.heap.size=xb at *;have HXB:=Hd hxb;clear hW hxb;go_region_law (first|(
         go_simp;go_at_call 157;refine(HO1.out _ (HS3.out.later ((Below.refl _ W).drew)) (HS2.out.later ((Below.refl _ W).drew))).mono ?_;rintro e w3 ⟨rfl,hs3,hc3⟩;have HS5:=Hd (HU.out _ _ (HS1.out.later ((Below.refl _ W).drew)) hs3 hc3);have z1_:=(hc3.cell (b:=xb+1) (w:=W.drew) zl (HNE.out.2) 1).trans z1;have y1_:=(hc3.cell (b:=xb) (w:=W.drew) yl (HNE.out.1) 1).trans y1;have y2_:=(hc3.cell (b:=xb) (w:=W.drew) yl (HNE.out.1) 2).trans y2;have c1_:=(hc3.cell (b:=ob) (w:=W.drew) hobW hob (o+1)).trans c1;have c2_:=(hc3.cell (b:=ob) (w:=W.drew) hobW hob (o+2)).trans c2;have fz_:=(hc3.froz (b:=ob) (w:=W.drew) hobW hob (o+2)).trans fz
         have yl_:xb<w3.heap.size:=ltL yl hc3.size;have ob_:ob<w3.heap.size:=ltL hobW hc3.size;have HS4:=Hd hs3;have HC4:=Hd hc3;clear hs3 hc3))
     all_goals go_upto_region 6 with fail
     all_goals (
      first|(go_region_law (first|(
           go_simp;go_at_call 157;refine(HO2.out _ (HS4.out.later ((Below.refl _ w3).drew)) (HS5.out.later ((Below.refl _ w3).drew))).mono ?_;rintro e w5 ⟨rfl,hs5,hc5⟩;have y2_5:=(hc5.cell (b:=xb) (w:=w3.drew) yl_ (HNE.out.1) 2).trans y2_;have c2_5:=(hc5.cell (b:=ob) (w:=w3.drew) ob_ hob (o+2)).trans c2_;have fz_5:=(hc5.froz (b:=ob) (w:=w3.drew) ob_ hob (o+2)).trans fz_;have HS6:=Hd hs5;have HC6:=Hd hc5;clear hs5 hc5)))|fail)
     all_goals go_wp2_with fail
     all_goals go_ret
     all_goals exact⟨by first|rfl|exact ret_boolB (by simp),w5,HCW.out.next ((Chg.of_below ((Below.refl _ W).drew)).next (HC4.out.next ((Chg.of_below ((Below.refl _ w3).drew)).next HC6.out))),HS6.out,.inl ⟨rfl,rfl⟩⟩)
 | true=>
  clear hq1 hq2;obtain⟨T,hT⟩:∃T,STo|||ST=T:=⟨_,rfl⟩
  obtain⟨b1,hb1⟩:∃b,(T != STo)=b:=⟨_,rfl⟩
  have HO1:=Hd (fun y (a:SetAt y hto STo) (b:SetAt y ht ST)=>orp_any a b n2);simp only[hT,hb1]at HO1;have HT:=Hd (And.intro hT hb1);clear hT hb1;cases emp with
  | false=>
   rw[handC_one (by simp)];simp only;rw[HT.out.1,HT.out.2];unfold SetH.v at *;go_enter Tryz.func199,Tryz.ntmps199
   go_upto_region 3 with fail
   generalize hW:(w.alloc (.cells #[.int .i64 sx,.pointer (some ⟨hx.h,0,none⟩),.bool true] 242)).alloc (.cells #[.pointer (some ⟨ht.h,0,none⟩),.bool false] 235)=W at *;have c1:=(HBW.out.cell (p:=⟨ob,o+1,none⟩) hobl).trans c1;have z0:=Blk.cell HX2.out 0;have z1:=Blk.cell HX2.out 1;have zl:=Blk.lt HX2.out;simp at z0 z1 zl;have HCW:=Hd (Chg.of_below (X:=fun k=>k=hto.wb) HBW.out);generalize hxb:w.heap.size=xb at *;have HXB:=Hd hxb;clear hW hxb;go_region_law (first|(
       go_simp;go_at_call 157;refine(HO1.out _ (HS3.out.later ((Below.refl _ W).drew)) (HS2.out.later ((Below.refl _ W).drew))).mono ?_;rintro e w3 ⟨rfl,hs3,hc3⟩;have z1_:=(hc3.cell (b:=xb+1) (w:=W.drew) zl (HNE.out.2) 1).trans z1;have HS4:=Hd hs3;have HC4:=Hd hc3;clear hs3 hc3))
   all_goals go_wp2_with fail
   all_goals go_ret
   all_goals exact⟨rfl,w3,HCW.out.next ((Chg.of_below ((Below.refl _ W).drew)).next HC4.out),HS4.out,.inl ⟨rfl,rfl⟩⟩
  | true=>
   obtain⟨U,hU⟩:∃U,(if own then T else SX)=U:=⟨_,rfl⟩
   obtain⟨b2,hb2⟩:∃b,(T|||U != T)=b:=⟨_,rfl⟩
   have HO2:=Hd (fun y (a:SetAt y hto T) (b:SetAt y hx U)=>orp_any a b n1);simp only[hb2]at HO2;have HU:Hid (∀y y',SetAt y hx SX→SetAt y' hto T→Chg hto.X y y'→SetAt y' hx U):=Hd (fun y y' a1 a2 a3=>by
    cases own with
    | true=>rw[if_pos rfl]at hU hown;rw[←hU,hown];exact a2
    | false=>rw[if_neg (by simp)]at hU hown;rw[←hU];exact a1.chg a3 hxn hown)
   have HB2:=Hd (And.intro hU hb2);clear hU hb2;cases b2<;>cases f
   all_goals (
    first|rw[handC_flag rfl]|rw[handC_two (by simp) (by simp)]
    simp only;first|(rw[HT.out.1,HB2.out.1];rw[HB2.out.2,HT.out.2])|rw[HT.out.1,HB2.out.1]
    unfold SetH.v at *;go_enter Tryz.func199,Tryz.ntmps199
    go_upto_region 3 with fail
    generalize hW:(w.alloc (.cells #[.int .i64 sx,.pointer (some ⟨hx.h,0,none⟩),.bool true] 242)).alloc (.cells #[.pointer (some ⟨ht.h,0,none⟩),.bool true] 235)=W at *;have c1:=(HBW.out.cell (p:=⟨ob,o+1,none⟩) hobl).trans c1;have c2:=(HBW.out.cell (p:=⟨ob,o+2,none⟩) hobl).trans c2;have fz:=(World.frozen?_of_block (a:=⟨ob,o+2,none⟩) (HBW.out.block ob hobl)).trans fz;have hobW:ob<W.heap.size:=ltL hobl HBW.out.size;have z0:=Blk.cell HX2.out 0;have z1:=Blk.cell HX2.out 1;have zl:=Blk.lt HX2.out;have y1:=Blk.cell HX1.out 1;have y2:=Blk.cell HX1.out 2;have yl:=Blk.lt HX1.out;simp at z0 z1 zl y1 y2
    have HCW:=Hd (Chg.of_below (X:=fun k=>k=hto.wb) HBW.out);generalize hxb:w.heap.size=xb at *;have HXB:=Hd hxb;clear hW hxb;go_region_law (first|(
        go_simp;go_at_call 157;refine(HO1.out _ (HS3.out.later ((Below.refl _ W).drew)) (HS2.out.later ((Below.refl _ W).drew))).mono ?_;rintro e w3 ⟨rfl,hs3,hc3⟩;have HS5:=Hd (HU.out _ _ (HS1.out.later ((Below.refl _ W).drew)) hs3 hc3);have z1_:=(hc3.cell (b:=xb+1) (w:=W.drew) zl (HNE.out.2) 1).trans z1;have y1_:=(hc3.cell (b:=xb) (w:=W.drew) yl (HNE.out.1) 1).trans y1;have y2_:=(hc3.cell (b:=xb) (w:=W.drew) yl (HNE.out.1) 2).trans y2;have c1_:=(hc3.cell (b:=ob) (w:=W.drew) hobW hob (o+1)).trans c1;have c2_:=(hc3.cell (b:=ob) (w:=W.drew) hobW hob (o+2)).trans c2;have fz_:=(hc3.froz (b:=ob) (w:=W.drew) hobW hob (o+2)).trans fz
        have yl_:xb<w3.heap.size:=ltL yl hc3.size;have ob_:ob<w3.heap.size:=ltL hobW hc3.size;have HS4:=Hd hs3;have HC4:=Hd hc3;clear hs3 hc3))
    all_goals go_upto_region 6 with fail
    all_goals (
     first|(go_region_law (first|(
          go_simp;go_at_call 157;refine(HO2.out _ (HS4.out.later ((Below.refl _ w3).drew)) (HS5.out.later ((Below.refl _ w3).drew))).mono ?_;rintro e w5 ⟨rfl,hs5,hc5⟩;have y2_5:=(hc5.cell (b:=xb) (w:=w3.drew) yl_ (HNE.out.1) 2).trans y2_;have c2_5:=(hc5.cell (b:=ob) (w:=w3.drew) ob_ hob (o+2)).trans c2_;have fz_5:=(hc5.froz (b:=ob) (w:=w3.drew) ob_ hob (o+2)).trans fz_;have HS6:=Hd hs5;have HC6:=Hd hc5;clear hs5 hc5)))|fail)
    all_goals go_wp2_with fail
    all_goals go_ret
    all_goals exact⟨by first|rfl|exact ret_boolB (by simp),w5,HCW.out.next ((Chg.of_below ((Below.refl _ W).drew)).next (HC4.out.next ((Chg.of_below ((Below.refl _ w3).drew)).next HC6.out))),HS6.out,by first|exact .inl ⟨rfl,rfl⟩|exact .inr ⟨rfl,rfl⟩⟩)
end Go.Proofs.YthaacmablcpdfaaGreatDoor
