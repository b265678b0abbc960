/- All lookaheads go on. -/
import Derived.Test.YthaacmablcpdfaaGreatDoorZbn
import Derived.Test.YthaacmablcpdfaaGreatDoorNm
namespace Go.Proofs.YthaacmablcpdfaaGreatDoor
open Go.RowKit
set_option linter.unusedVariables false
set_option maxRecDepth 100000
section
variable {w1 w3 wr:World} {mb fb n c:Nat} {v lv rv tlv uv cv bv av ev:Value} {g:Gz} {base:List Nat} {P:List SetH} {S:List Nat} {ED:List (Option SetH×Edge)} {FR:List (Value×List It)}
theorem Mk.or_edge(h:Mk w1 w3 wr mb fb n c v lv rv tlv uv cv bv av ev g base P S ED FR){i:Nat}{p:SetH}(hp:P[i]?=some p){q:Option SetH}{T:Nat}(hq:EdOk wr (g.nt+1) P q T) :
  Calls Tryz.prog 157 #[p.v,hV q] wr fun e w'=>e=.returned (.bool ((S.getD i 0|||T) != S.getD i 0))∧Mk w1 w3 w' mb fb n c v lv rv tlv uv cv bv av ev g base P (S.set i (S.getD i 0|||T)) ED FR∧Chg (XP P) wr w':=by
 have hpa:=h.fam.at_ i p hp;have hn:=h.fam.room p (mG hp);cases q with
 | none=>
  have hT:T=0:=hq;subst hT;refine(or_nil hpa).mono ?_;rintro e w' ⟨rfl,rfl⟩;rw[Nat.or_zero];have hi:S.set i (S.getD i 0)=S:=by have hl:=(sG.1 hp).1;rw[h.fam.len]at hl;rw[dG,eG hl];exact List.set_getElem_self hl
  rw[hi];exact⟨by simp,h,Chg.refl _ _⟩
 | some s=>obtain⟨a,b,d⟩:=hq;refine(orp_any hpa a (by rw[b,hn])).mono ?_;rintro e w' ⟨rfl,h1,h2⟩;have hc:Chg (XP P) wr w':=h2.one (mG hp);exact⟨rfl,h.turned hc (h.fam.turn hp h1 h2),hc⟩
theorem Mk.or_place(h:Mk w1 w3 wr mb fb n c v lv rv tlv uv cv bv av ev g base P S ED FR){i j:Nat}{p q:SetH}(hp:P[i]?=some p)(hq:P[j]?=some q) :
  Calls Tryz.prog 157 #[p.v,q.v] wr fun e w'=>e=.returned (.bool ((S.getD i 0|||S.getD j 0) != S.getD i 0))∧Mk w1 w3 w' mb fb n c v lv rv tlv uv cv bv av ev g base P (S.set i (S.getD i 0|||S.getD j 0)) ED FR∧Chg (XP P) wr w':=by
 have hn:=h.fam.room p (mG hp);have hm:=h.fam.room q (mG hq);refine(orp_any (h.fam.at_ i p hp) (h.fam.at_ j q hq) (by rw[hn,hm])).mono ?_;rintro e w' ⟨rfl,h1,h2⟩;have hc:Chg (XP P) wr w':=h2.one (mG hp);exact⟨rfl,h.turned hc (h.fam.turn hp h1 h2),hc⟩
def frameS(mb:Nat)(f:Nat→Value):Act:={tmps:=#[.pointer (some ⟨mb,0,none⟩),f 1,f 2,f 3,f 4,f 5,f 6,f 7,f 8,f 9,f 10,f 11,f 12,f 13,f 14,f 15,f 16,f 17,f 18,f 19,f 20,f 21,f 22,f 23,f 24,f 25,f 26,f 27,f 28,f 29,f 30,f 31,f 32,f 33,f 34,f 35,f 36,f 37,f 38,f 39,f 40,f 41,f 42,f 43,f 44,f 45,f 46,f 47,f 48,f 49,f 50,f 51,f 52,f 53,f 54,f 55,f 56,f 57,f 58,f 59,f 60,f 61],defers:=[]}
set_option maxHeartbeats 16000000 in
theorem mspread_any(h:Mk w1 w3 wr mb fb n c v lv rv tlv uv cv bv av ev g base P S ED FR)(hfit:∀e∈ED.map (·.2),e.dst<P.length∧e.at_<P.length)(hv:∃x0 x1 x2 x3,v=.agg #[x0,x1,x2,x3])(hP:P.length≤1000000)(hE:ED.length≤1000000){f:Nat}{Sf:List Nat}(hf:Gz.spreadI (ED.map (·.2)) f S=some Sf) :
  Calls Tryz.prog 114 #[.pointer (some ⟨mb,0,none⟩)] wr fun e w'=>e=.returned (.tuple #[])∧Mk w1 w3 w' mb fb n c v lv rv tlv uv cv bv av ev g base P Sf ED FR:=by
 obtain⟨x0,x1,x2,x3,rfl⟩:=hv;obtain⟨Ae,ce,hev⟩:=own_shape2 h.edges;obtain⟨Aa,ca,hav⟩:=own_shape2 h.all;subst hev;subst hav;have HM:=Hd h;have HF:=Hd hf;have HFI:=Hd hfit;clear h hf hfit;go_enter Tryz.func114,Tryz.ntmps114
 go_wp2;refine wp_scope_ghost 0 (fun m a' w'=>∃S',Hid (Mk w1 w3 w' mb fb n c (.agg #[x0,x1,x2,x3]) lv rv tlv uv cv bv (.slice Aa P.length ca) (.slice Ae ED.length ce) g base P S' ED FR)∧Hid (Gz.spreadI (ED.map (·.2)) m S'=some Sf)∧a'=frameS mb (fun i=>a'.tmps.getD i undef)) rfl ?pass ?first
 case first=>intro HJ;have HJX:=Hd HJ;clear HJ;refine wp_seq (wp_label ?_);refine HJX.out f _ _ ?_;exact⟨S,HM,HF,rfl⟩
 case pass=>
  rintro m a' w2 ⟨S2,HS,HSP,ha⟩;obtain⟨f,hf⟩:∃f,a'=frameS mb f:=⟨_,ha⟩
  clear ha;subst hf;unfold frameS;cases m with
  | zero=>have h:=HSP.out;simp[Gz.spreadI]at h
  | succ m=>
   obtain⟨A',m',hpass,hnext⟩:∃A' m',Gz.spreadPass (ED.map (·.2)) S2 false=(A',m')∧(if m' then Gz.spreadI (ED.map (·.2)) m A'=some Sf else A'=Sf):=by
    have h:=HSP.out;unfold Gz.spreadI at h;split at h
    ·rename_i A' hA
     exact⟨A',true,hA,by rw[if_pos rfl];exact h⟩
    ·rename_i A' hA
     exact⟨A',false,hA,by rw[if_neg (by simp)];exact Option.some.inj h⟩
   have HPASS:=Hd hpass;have HNEXT:=Hd hnext;have z11:w2.cell? ⟨mb,11,none⟩=some (.slice Ae ED.length ce):=HS.out.cells.2.2.2.2.2.2.2.2.1;clear hpass hnext HSP;obtain⟨ne,hne⟩:∃k,ED.length=k:=⟨_,rfl⟩
   obtain⟨np,hnp⟩:∃k,P.length=k:=⟨_,rfl⟩
   have HNE:=Hd hne;have HNP:=Hd hnp;rw[hne]at z11 hE;rw[hnp]at hP;clear hne hnp;go_wp2_with fail
   go_loopw [2,10] (fun mo ii w'=>∃(k:Nat) (mm:Bool) (A:List Nat),k≤ne∧ii=.int .i64 k∧mo=.bool mm∧Hid (Mk w1 w3 w' mb fb n c (.agg #[x0,x1,x2,x3]) lv rv tlv uv cv bv (.slice Aa P.length ca) (.slice Ae ED.length ce) g base P A ED FR)∧Hid (Gz.spreadPass ((ED.map (·.2)).drop k) A mm=(A',m'))) (fun _ ii _=>ne-(intOf ii).toNat)
   case atStart=>exact⟨0,false,S2,zeL _,rfl,rfl,HS,HPASS⟩
   case round=>
    obtain⟨k,mm,A,hk,rfl,rfl,HA,HPA⟩:=hrel;rename World=>w4
    clear z11;by_cases hlt:k<ne
    ·obtain⟨⟨q,⟨ed,ea,es,ef⟩⟩,hx⟩:∃x,ED[k]?=some x:=⟨_,eG (by rw[HNE.out];exact hlt)⟩
     have hxm:=mG hx;obtain⟨hd1,hd2⟩:=HFI.out ⟨ed,ea,es,ef⟩ (List.mem_map.2 ⟨_,hxm,rfl⟩);simp only at hd1 hd2;obtain⟨pd,hpd⟩:∃p,P[ed]?=some p:=⟨_,eG hd1⟩
     obtain⟨pa,hpa⟩:∃p,P[ea]?=some p:=⟨_,eG hd2⟩
     have hdr:(ED.map (·.2)).drop k=⟨ed,ea,es,ef⟩::(ED.map (·.2)).drop (k+1):=drop_more (by rw[pG,hx];rfl);have HPB:=Hd HPA.out;rw[hdr]at HPB;have HEQ:=Hd (HA.out.eset _ hxm);have HPD:=Hd hpd;have HPAA:=Hd hpa;obtain⟨hk1,hk2⟩:=sG.1 hx;have e0:=fm_get edC 4 (fun _=>rfl) ED k 0 hk1 (by omega);have e1:=fm_get edC 4 (fun _=>rfl) ED k 1 hk1 (by omega);have e2:=fm_get edC 4 (fun _=>rfl) ED k 2 hk1 (by omega);have e3:=fm_get edC 4 (fun _=>rfl) ED k 3 hk1 (by omega);rw[hk2]at e0 e1 e2 e3;obtain⟨be,hAe⟩:∃be,Ae=some ⟨be,0,none⟩:=by
      rcases own_form HA.out.edges with⟨_,h0⟩|⟨b,c',h1,_⟩
      ·rw[HNE.out]at h0;omega
      ·cases h1;exact⟨b,rfl⟩
     subst hAe;obtain⟨ba,hAa⟩:∃ba,Aa=some ⟨ba,0,none⟩:=by
      rcases own_form HA.out.all with⟨_,h0⟩|⟨b,c',h1,_⟩
      ·omega
      ·cases h1;exact⟨b,rfl⟩
     subst hAa;have hrow:=HA.out.edges;have d0:w4.cell? ⟨be,k*4,none⟩=some (.int .i64 ed):=by rw[own_cell hrow (k*4) (by omega)];rw[Nat.add_zero]at e0;exact e0
     have d1:w4.cell? ⟨be,k*4+1,none⟩=some (.int .i64 ea):=by rw[own_cell hrow (k*4+1) (by omega)];exact e1
     have d2:w4.cell? ⟨be,k*4+2,none⟩=some (hV q):=by rw[own_cell hrow (k*4+2) (by omega)];exact e2
     have d3:w4.cell? ⟨be,k*4+3,none⟩=some (.bool ef):=by rw[own_cell hrow (k*4+3) (by omega)];exact e3
     have HROW:Hid (∀y (A2:List Nat),Mk w1 w3 y mb fb n c (.agg #[x0,x1,x2,x3]) lv rv tlv uv cv bv (.slice (some ⟨ba,0,none⟩) P.length ca) (.slice (some ⟨be,0,none⟩) ED.length ce) g base P A2 ED FR→y.cell? ⟨mb,10,none⟩=some (.slice (some ⟨ba,0,none⟩) np ca)∧y.cell? ⟨ba,ed,none⟩=some (.pointer (some ⟨pd.h,0,none⟩))∧y.cell? ⟨ba,ea,none⟩=some (.pointer (some ⟨pa.h,0,none⟩))):=Hd (fun y A2 hy=>by
      refine⟨by rw[←HNP.out];exact hy.cells.2.2.2.2.2.2.2.1,?_,?_⟩
      ·rw[own_cell hy.all ed (by omega),pG,HPD.out];rfl
      ·rw[own_cell hy.all ea (by omega),pG,HPAA.out];rfl)
     obtain⟨qv,hqv⟩:∃qv,hV q=.pointer qv:=by cases q<;>exact⟨_,rfl⟩
     rw[hqv]at d2;have HQV:=Hd hqv;clear hx hxm hpd hpa hdr hk1 hk2 e0 e1 e2 e3 hrow hqv HPA;rw[HNP.out]at hd1 hd2;go_upto_region 4 with fail
     have HX5:Hid (Blk (w4.alloc (.cells #[.int .i64 ed,.int .i64 ea,.pointer qv,.bool ef] 240)) w4.heap.size 240 #[.int .i64 ed,.int .i64 ea,.pointer qv,.bool ef]):=Hd (Blk.new w4 240 _);have HM5:=Hd (HA.out.later (below_alloc1 w4 (.cells #[.int .i64 ed,.int .i64 ea,.pointer qv,.bool ef] 240)));have HEQ5:=Hd (HEQ.out.later (below_alloc1 w4 (.cells #[.int .i64 ed,.int .i64 ea,.pointer qv,.bool ef] 240)));generalize w4.alloc (.cells #[.int .i64 ed,.int .i64 ea,.pointer qv,.bool ef] 240)=w5 at *;generalize w4.heap.size=eb at *;clear d0 d1 d2 d3;have HSF:Hid (∀y (A2:List Nat),Mk w1 w3 y mb fb n c (.agg #[x0,x1,x2,x3]) lv rv tlv uv cv bv (.slice (some ⟨ba,0,none⟩) P.length ca) (.slice (some ⟨be,0,none⟩) ED.length ce) g base P A2 ED FR→Blk y eb 240 #[.int .i64 ed,.int .i64 ea,.pointer qv,.bool ef]→(fun(v:World)=>v.cell? ⟨mb,10,none⟩=some (.slice (some ⟨ba,0,none⟩) np ca)∧v.cell? ⟨eb,0,none⟩=some (.int .i64 ed)∧v.cell? ⟨eb,1,none⟩=some (.int .i64 ea)∧v.cell? ⟨eb,2,none⟩=some (.pointer qv)∧v.cell? ⟨ba,ed,none⟩=some (.pointer (some ⟨pd.h,0,none⟩))∧v.cell? ⟨ba,ea,none⟩=some (.pointer (some ⟨pa.h,0,none⟩))) y):=Hd (fun y A2 hy hb=>by
      obtain⟨a1,a2,a3⟩:=HROW.out y A2 hy;exact⟨a1,hb.cell 0,hb.cell 1,hb.cell 2,a2,a3⟩)
     have HSB5:=Hd (fun Y (hy:Below w5.heap.size w5 Y)=>HSF.out Y _ (HM5.out.later hy) (HX5.out.below hy HX5.out.lt));have HD5:Hid (Below w5.heap.size w5 w5.drew):=Hd ((Below.refl _ w5).drew);obtain⟨qq,hcall,hq0,hq1⟩:=next_zero ((HM5.out.later HD5.out).fam.at_ ea pa HPAA.out);have HNX:=Hd hcall;unfold SetH.v at HNX;have HQQ:=Hd (And.intro hq0 hq1);have hed:(ed:Int)<(np:Int):=by omega
     have hea:(ea:Int)<(np:Int):=by omega
     clear hcall hq0 hq1
     go_region_held3 (fun(v:World)=>v.cell? ⟨mb,10,none⟩=some (.slice (some ⟨ba,0,none⟩) np ca)∧v.cell? ⟨eb,0,none⟩=some (.int .i64 ed)∧v.cell? ⟨eb,1,none⟩=some (.int .i64 ea)∧v.cell? ⟨eb,2,none⟩=some (.pointer qv)∧v.cell? ⟨ba,ed,none⟩=some (.pointer (some ⟨pd.h,0,none⟩))∧v.cell? ⟨ba,ea,none⟩=some (.pointer (some ⟨pa.h,0,none⟩)))
      (first|exact HSB5.out _ HD5.out)
      (first|(go_at_call 155;refine HNX.out.mono ?_;rintro e w6 ⟨rfl,rfl⟩))
     by_cases hz:A.getD ea 0=0
     ·have hlt0:qq<0:=HQQ.out.1 hz
      have HPT:Hid (Gz.spreadPass ((ED.map (·.2)).drop (k+1)) A mm=(A',m')):=Hd (by have h:=HPB.out;unfold Gz.spreadPass at h;rw[if_pos hz]at h;exact h)
      clear hz;go_wp2_with fail
      go_roundw
      case rel=>exact⟨k+1,mm,A,by omega,by go_num,rfl,Hd (HM5.out.later HD5.out),HPT⟩
      case measure=>simp[intOf];omega
     ·have hlt0:¬(qq<0):=by have:=HQQ.out.2 hz;omega
      obtain⟨X0,hX0⟩:∃x,A.getD ed 0=x:=⟨_,rfl⟩
      obtain⟨X1,hX1⟩:∃x,X0|||es=x:=⟨_,rfl⟩
      obtain⟨X2,hX2⟩:∃x,X1|||(if ed=ea then X1 else A.getD ea 0)=x:=⟨_,rfl⟩
      obtain⟨b1,hb1⟩:∃b,(X1 != X0)=b:=⟨_,rfl⟩
      have HPF:Hid (ef=false→Gz.spreadPass ((ED.map (·.2)).drop (k+1)) (A.set ed X1) (b1||mm)=(A',m')):=Hd (fun e=>by have h:=HPB.out;subst e;unfold Gz.spreadPass at h;rw[if_neg hz]at h;simp only[Bool.false_eq_true,if_false]at h;rw[hX0,hX1,hb1]at h;exact h)
      have HPT0:Hid (ef=true→Gz.spreadPass ((ED.map (·.2)).drop (k+1)) ((A.set ed X1).set ed X2) ((X2 != X1)||(b1||mm))=(A',m')):=Hd (fun e=>by have h:=HPB.out;subst e;unfold Gz.spreadPass at h;rw[if_neg hz]at h;simp only[if_true]at h;rw[hX0,hX1,hX2,hb1]at h;rw[List.set_set];exact h)
      have HX12:Hid ((A.set ed X1).getD ed 0|||(A.set ed X1).getD ea 0=X2∧(A.set ed X1).getD ed 0=X1):=Hd (by
       have hl:ed<A.length:=by have h:=HM5.out.fam.len;have h2:=HNP.out;omega
       have h1:(A.set ed X1).getD ed 0=X1:=by rw[dG,tG hl];rfl
       refine⟨?_,h1⟩;rw[h1,←hX2];congr 1;by_cases he:ed=ea
       ·rw[if_pos he,←he];exact h1
       ·rw[if_neg he,dG,uG he,←dG])
      have HOE:Hid (Calls Tryz.prog 157 #[.pointer (some ⟨pd.h,0,none⟩),.pointer qv] w5.drew.drew fun e w'=>e=.returned (.bool b1)∧Mk w1 w3 w' mb fb n c (.agg #[x0,x1,x2,x3]) lv rv tlv uv cv bv (.slice (some ⟨ba,0,none⟩) P.length ca) (.slice (some ⟨be,0,none⟩) ED.length ce) g base P (A.set ed X1) ED FR∧Chg (XP P) w5.drew.drew w'):=Hd (by have h:=(HM5.out.later (HD5.out.drew)).or_edge HPD.out (HEQ5.out.later (HD5.out.drew));rw[HQV.out,hX0]at h;rw[hX1,hb1]at h;exact h)
      have HNE5:Hid (∀(cs:Array Value),∀b,Blk w5.drew.drew b 240 cs→¬XP P b):=Hd (fun cs b hb=>by rintro⟨p,hp,rfl⟩;obtain⟨T,hT⟩:=(HM5.out.later (HD5.out.drew)).fam.mem hp;exact Blk.ne_ hb hT.words (by decide) rfl)
      have HX5:Hid (Blk w5.drew eb 240 #[.int .i64 ed,.int .i64 ea,.pointer qv,.bool ef]):=Hd HX5.out.drew;have HSB5:=Hd (fun Y (hy:Below w5.drew.heap.size w5.drew Y)=>HSF.out Y _ ((HM5.out.later HD5.out).later hy) (HX5.out.below hy HX5.out.lt));clear hX0 hX1 hX2 hz;generalize w5.drew=w5 at *;cases b1 with
      | true=>
       go_upto_region 5 with fail
       refine wp_regionK 14 (fun(v:World)=>v.cell? ⟨mb,10,none⟩=some (.slice (some ⟨ba,0,none⟩) np ca)∧v.cell? ⟨eb,0,none⟩=some (.int .i64 ed)∧v.cell? ⟨eb,1,none⟩=some (.int .i64 ea)∧v.cell? ⟨eb,2,none⟩=some (.pointer qv)∧v.cell? ⟨ba,ed,none⟩=some (.pointer (some ⟨pd.h,0,none⟩))∧v.cell? ⟨ba,ea,none⟩=some (.pointer (some ⟨pa.h,0,none⟩))) (by kernel_rfl) ?_;have hHeld:(fun(v:World)=>v.cell? ⟨mb,10,none⟩=some (.slice (some ⟨ba,0,none⟩) np ca)∧v.cell? ⟨eb,0,none⟩=some (.int .i64 ed)∧v.cell? ⟨eb,1,none⟩=some (.int .i64 ea)∧v.cell? ⟨eb,2,none⟩=some (.pointer qv)∧v.cell? ⟨ba,ed,none⟩=some (.pointer (some ⟨pd.h,0,none⟩))∧v.cell? ⟨ba,ea,none⟩=some (.pointer (some ⟨pa.h,0,none⟩))) w5.drew:=HSB5.out _ ((Below.refl _ w5).drew)
       refine takeQ 0 hHeld ?_;simp only[setS,setZ];refine takeQ 1 hHeld ?_;simp only[setS,setZ];refine takeQ 2 hHeld ?_;simp only[setS,setZ];refine takeQ 3 hHeld ?_;simp only[setS,setZ];refine takeQ 4 hHeld ?_;simp only[setS,setZ];refine takeQ 5 hHeld ?_;simp only[setS,setZ];refine takeQ 6 hHeld ?_;simp only[setS,setZ];refine takeQ 7 hHeld ?_;simp only[setS,setZ];refine takeQ 8 hHeld ?_;simp only[setS,setZ];refine takeQ 9 hHeld ?_;simp only[setS,setZ];clear hHeld;refine nextK 10 (by kernel_rfl) rfl rfl (fun K hK=>?_);go_simp;refine HOE.out.mono ?_;rintro e w6 ⟨rfl,hm6,hc6⟩;have HM6:=Hd hm6
       have hb6:=HX5.out.below ((Below.refl _ w5).drew) HX5.out.lt;have HX6:=Hd (hc6.blk hb6 (fun e=>HNE5.out _ _ hb6 e));clear hc6 hm6 hb6;have HSB6:=Hd (fun Y (hy:Below w6.heap.size w6 Y)=>HSF.out Y _ (HM6.out.later hy) (HX6.out.below hy HX6.out.lt));refine hK.out _ _ (fun _=>HSB6.out w6 (Below.refl _ _)) ?_;clear hK K;have hHeld:(fun(v:World)=>v.cell? ⟨mb,10,none⟩=some (.slice (some ⟨ba,0,none⟩) np ca)∧v.cell? ⟨eb,0,none⟩=some (.int .i64 ed)∧v.cell? ⟨eb,1,none⟩=some (.int .i64 ea)∧v.cell? ⟨eb,2,none⟩=some (.pointer qv)∧v.cell? ⟨ba,ed,none⟩=some (.pointer (some ⟨pd.h,0,none⟩))∧v.cell? ⟨ba,ea,none⟩=some (.pointer (some ⟨pa.h,0,none⟩))) w6:=HSB6.out w6 (Below.refl _ _)
       refine takeQ 11 hHeld ?_;simp only[setS,setZ];refine takeK 12 rfl (by kernel_rfl) (by kernel_rfl) (by kernel_rfl) (by kernel_rfl) (fun _ _ _ h=>h) (Or.inr ⟨by rfl,rfl⟩) hHeld rfl ?rc12;simp only[List.set_cons_succ,List.set_cons_zero];refine takeQ 13 hHeld ?_;simp only[setS,setZ];clear hHeld;refine nextK 14 (by kernel_rfl) rfl rfl (fun K hK=>?_);go_simp;refine hK.out _ _ (fun h=>absurd rfl h) ?_;clear hK K;refine doneK (by kernel_rfl) ?_ _;have e3:w6.cell? ⟨eb,3,none⟩=some (.bool ef):=Blk.cell HX6.out 3;have el6:=HX6.out.lt;cases ef with
       | false=>
        have HPT:=Hd (HPF.out rfl);go_wp2_with fail
        go_roundw
        case rel=>exact⟨k+1,true,_,by omega,by go_num,rfl,HM6,HPT.out⟩
        case measure=>simp[intOf];omega
       | true=>
        have HPG:=Hd (HPT0.out rfl);have HOP0:=Hd ((HM6.out.later ((Below.refl _ w6).drew)).or_place HPD.out HPAA.out);have HNE6:Hid (∀(cs:Array Value),∀b,Blk w6.drew b 240 cs→¬XP P b):=Hd (fun cs b hb=>by rintro⟨p,hp,rfl⟩;obtain⟨T,hT⟩:=(HM6.out.later ((Below.refl _ w6).drew)).fam.mem hp;exact Blk.ne_ hb hT.words (by decide) rfl)
        rw[HX12.out.1,HX12.out.2]at HOP0;obtain⟨b2,hb2⟩:∃b,(X2 != X1)=b:=⟨_,rfl⟩
        unfold SetH.v at HOP0;have HOP:=Hd HOP0.out;rw[hb2]at HOP HPG;clear HOP0 hb2;cases b2 with
        | true=>
         have HPT:=HPG;go_upto_region 7 with fail
         refine wp_regionK 20 (fun(v:World)=>v.cell? ⟨mb,10,none⟩=some (.slice (some ⟨ba,0,none⟩) np ca)∧v.cell? ⟨eb,0,none⟩=some (.int .i64 ed)∧v.cell? ⟨eb,1,none⟩=some (.int .i64 ea)∧v.cell? ⟨eb,2,none⟩=some (.pointer qv)∧v.cell? ⟨ba,ed,none⟩=some (.pointer (some ⟨pd.h,0,none⟩))∧v.cell? ⟨ba,ea,none⟩=some (.pointer (some ⟨pa.h,0,none⟩))) (by kernel_rfl) ?_;have hHeld:(fun(v:World)=>v.cell? ⟨mb,10,none⟩=some (.slice (some ⟨ba,0,none⟩) np ca)∧v.cell? ⟨eb,0,none⟩=some (.int .i64 ed)∧v.cell? ⟨eb,1,none⟩=some (.int .i64 ea)∧v.cell? ⟨eb,2,none⟩=some (.pointer qv)∧v.cell? ⟨ba,ed,none⟩=some (.pointer (some ⟨pd.h,0,none⟩))∧v.cell? ⟨ba,ea,none⟩=some (.pointer (some ⟨pa.h,0,none⟩))) w6.drew:=HSB6.out _ ((Below.refl _ w6).drew)
         refine takeQ 0 hHeld ?_;simp only[setS,setZ];refine takeQ 1 hHeld ?_;simp only[setS,setZ];refine takeQ 2 hHeld ?_;simp only[setS,setZ];refine takeQ 3 hHeld ?_;simp only[setS,setZ];refine takeQ 4 hHeld ?_;simp only[setS,setZ];refine takeQ 5 hHeld ?_;simp only[setS,setZ];refine takeQ 6 hHeld ?_;simp only[setS,setZ];refine takeQ 7 hHeld ?_;simp only[setS,setZ];refine takeQ 8 hHeld ?_;simp only[setS,setZ];refine takeQ 9 hHeld ?_;simp only[setS,setZ];refine takeQ 10 hHeld ?_;simp only[setS,setZ];refine takeQ 11 hHeld ?_;simp only[setS,setZ];refine takeQ 12 hHeld ?_;simp only[setS,setZ];refine takeQ 13 hHeld ?_;simp only[setS,setZ]
         refine takeQ 14 hHeld ?_;simp only[setS,setZ];refine takeQ 15 hHeld ?_;simp only[setS,setZ];clear hHeld;refine nextK 16 (by kernel_rfl) rfl rfl (fun K hK=>?_);go_simp;refine HOP.out.mono ?_;rintro e w7 ⟨rfl,hm7,hc7⟩;have HM7:=Hd hm7;have hb7:=HX6.out.below ((Below.refl _ w6).drew) HX6.out.lt;have HX7:=Hd (hc7.blk hb7 (fun e=>HNE6.out _ _ hb7 e));clear hc7 hm7 hb7;have HSB7:=Hd (fun Y (hy:Below w7.heap.size w7 Y)=>HSF.out Y _ (HM7.out.later hy) (HX7.out.below hy HX7.out.lt));refine hK.out _ _ (fun _=>HSB7.out w7 (Below.refl _ _)) ?_;clear hK K;have hHeld:(fun(v:World)=>v.cell? ⟨mb,10,none⟩=some (.slice (some ⟨ba,0,none⟩) np ca)∧v.cell? ⟨eb,0,none⟩=some (.int .i64 ed)∧v.cell? ⟨eb,1,none⟩=some (.int .i64 ea)∧v.cell? ⟨eb,2,none⟩=some (.pointer qv)∧v.cell? ⟨ba,ed,none⟩=some (.pointer (some ⟨pd.h,0,none⟩))∧v.cell? ⟨ba,ea,none⟩=some (.pointer (some ⟨pa.h,0,none⟩))) w7:=HSB7.out w7 (Below.refl _ _)
         refine takeQ 17 hHeld ?_;simp only[setS,setZ];refine takeK 18 rfl (by kernel_rfl) (by kernel_rfl) (by kernel_rfl) (by kernel_rfl) (fun _ _ _ h=>h) (Or.inr ⟨by rfl,rfl⟩) hHeld rfl ?re18;simp only[List.set_cons_succ,List.set_cons_zero];refine takeQ 19 hHeld ?_;simp only[setS,setZ];clear hHeld;refine nextK 20 (by kernel_rfl) rfl rfl (fun K hK=>?_);go_simp;refine hK.out _ _ (fun h=>absurd rfl h) ?_;clear hK K;refine doneK (by kernel_rfl) ?_ _;go_wp2_with fail
         go_roundw
         case rel=>exact⟨k+1,true,_,by omega,by go_num,rfl,HM7,HPT.out⟩
         case measure=>simp[intOf];omega
        | false=>
         have HPT:=HPG;go_upto_region 7 with fail
         refine wp_regionK 20 (fun(v:World)=>v.cell? ⟨mb,10,none⟩=some (.slice (some ⟨ba,0,none⟩) np ca)∧v.cell? ⟨eb,0,none⟩=some (.int .i64 ed)∧v.cell? ⟨eb,1,none⟩=some (.int .i64 ea)∧v.cell? ⟨eb,2,none⟩=some (.pointer qv)∧v.cell? ⟨ba,ed,none⟩=some (.pointer (some ⟨pd.h,0,none⟩))∧v.cell? ⟨ba,ea,none⟩=some (.pointer (some ⟨pa.h,0,none⟩))) (by kernel_rfl) ?_;have hHeld:(fun(v:World)=>v.cell? ⟨mb,10,none⟩=some (.slice (some ⟨ba,0,none⟩) np ca)∧v.cell? ⟨eb,0,none⟩=some (.int .i64 ed)∧v.cell? ⟨eb,1,none⟩=some (.int .i64 ea)∧v.cell? ⟨eb,2,none⟩=some (.pointer qv)∧v.cell? ⟨ba,ed,none⟩=some (.pointer (some ⟨pd.h,0,none⟩))∧v.cell? ⟨ba,ea,none⟩=some (.pointer (some ⟨pa.h,0,none⟩))) w6.drew:=HSB6.out _ ((Below.refl _ w6).drew)
         refine takeQ 0 hHeld ?_;simp only[setS,setZ];refine takeQ 1 hHeld ?_;simp only[setS,setZ];refine takeQ 2 hHeld ?_;simp only[setS,setZ];refine takeQ 3 hHeld ?_;simp only[setS,setZ];refine takeQ 4 hHeld ?_;simp only[setS,setZ];refine takeQ 5 hHeld ?_;simp only[setS,setZ];refine takeQ 6 hHeld ?_;simp only[setS,setZ];refine takeQ 7 hHeld ?_;simp only[setS,setZ];refine takeQ 8 hHeld ?_;simp only[setS,setZ];refine takeQ 9 hHeld ?_;simp only[setS,setZ];refine takeQ 10 hHeld ?_;simp only[setS,setZ];refine takeQ 11 hHeld ?_;simp only[setS,setZ];refine takeQ 12 hHeld ?_;simp only[setS,setZ];refine takeQ 13 hHeld ?_;simp only[setS,setZ]
         refine takeQ 14 hHeld ?_;simp only[setS,setZ];refine takeQ 15 hHeld ?_;simp only[setS,setZ];clear hHeld;refine nextK 16 (by kernel_rfl) rfl rfl (fun K hK=>?_);go_simp;refine HOP.out.mono ?_;rintro e w7 ⟨rfl,hm7,hc7⟩;have HM7:=Hd hm7;have hb7:=HX6.out.below ((Below.refl _ w6).drew) HX6.out.lt;have HX7:=Hd (hc7.blk hb7 (fun e=>HNE6.out _ _ hb7 e));clear hc7 hm7 hb7;have HSB7:=Hd (fun Y (hy:Below w7.heap.size w7 Y)=>HSF.out Y _ (HM7.out.later hy) (HX7.out.below hy HX7.out.lt));refine hK.out _ _ (fun _=>HSB7.out w7 (Below.refl _ _)) ?_;clear hK K;have hHeld:(fun(v:World)=>v.cell? ⟨mb,10,none⟩=some (.slice (some ⟨ba,0,none⟩) np ca)∧v.cell? ⟨eb,0,none⟩=some (.int .i64 ed)∧v.cell? ⟨eb,1,none⟩=some (.int .i64 ea)∧v.cell? ⟨eb,2,none⟩=some (.pointer qv)∧v.cell? ⟨ba,ed,none⟩=some (.pointer (some ⟨pd.h,0,none⟩))∧v.cell? ⟨ba,ea,none⟩=some (.pointer (some ⟨pa.h,0,none⟩))) w7:=HSB7.out w7 (Below.refl _ _)
         refine takeQ 17 hHeld ?_;simp only[setS,setZ];refine takeQ 18 hHeld ?_;simp only[setS,setZ];refine takeQ 19 hHeld ?_;simp only[setS,setZ];clear hHeld;refine nextK 20 (by kernel_rfl) rfl rfl (fun K hK=>?_);go_simp;refine hK.out _ _ (fun h=>absurd rfl h) ?_;clear hK K;refine doneK (by kernel_rfl) ?_ _;go_wp2_with fail
         go_roundw
         case rel=>exact⟨k+1,true,_,by omega,by go_num,rfl,HM7,HPT.out⟩
         case measure=>simp[intOf];omega
      | false=>
       go_upto_region 5 with fail
       refine wp_regionK 14 (fun(v:World)=>v.cell? ⟨mb,10,none⟩=some (.slice (some ⟨ba,0,none⟩) np ca)∧v.cell? ⟨eb,0,none⟩=some (.int .i64 ed)∧v.cell? ⟨eb,1,none⟩=some (.int .i64 ea)∧v.cell? ⟨eb,2,none⟩=some (.pointer qv)∧v.cell? ⟨ba,ed,none⟩=some (.pointer (some ⟨pd.h,0,none⟩))∧v.cell? ⟨ba,ea,none⟩=some (.pointer (some ⟨pa.h,0,none⟩))) (by kernel_rfl) ?_;have hHeld:(fun(v:World)=>v.cell? ⟨mb,10,none⟩=some (.slice (some ⟨ba,0,none⟩) np ca)∧v.cell? ⟨eb,0,none⟩=some (.int .i64 ed)∧v.cell? ⟨eb,1,none⟩=some (.int .i64 ea)∧v.cell? ⟨eb,2,none⟩=some (.pointer qv)∧v.cell? ⟨ba,ed,none⟩=some (.pointer (some ⟨pd.h,0,none⟩))∧v.cell? ⟨ba,ea,none⟩=some (.pointer (some ⟨pa.h,0,none⟩))) w5.drew:=HSB5.out _ ((Below.refl _ w5).drew)
       refine takeQ 0 hHeld ?_;simp only[setS,setZ];refine takeQ 1 hHeld ?_;simp only[setS,setZ];refine takeQ 2 hHeld ?_;simp only[setS,setZ];refine takeQ 3 hHeld ?_;simp only[setS,setZ];refine takeQ 4 hHeld ?_;simp only[setS,setZ];refine takeQ 5 hHeld ?_;simp only[setS,setZ];refine takeQ 6 hHeld ?_;simp only[setS,setZ];refine takeQ 7 hHeld ?_;simp only[setS,setZ];refine takeQ 8 hHeld ?_;simp only[setS,setZ];refine takeQ 9 hHeld ?_;simp only[setS,setZ];clear hHeld;refine nextK 10 (by kernel_rfl) rfl rfl (fun K hK=>?_);go_simp;refine HOE.out.mono ?_;rintro e w6 ⟨rfl,hm6,hc6⟩;have HM6:=Hd hm6
       have hb6:=HX5.out.below ((Below.refl _ w5).drew) HX5.out.lt;have HX6:=Hd (hc6.blk hb6 (fun e=>HNE5.out _ _ hb6 e));clear hc6 hm6 hb6;have HSB6:=Hd (fun Y (hy:Below w6.heap.size w6 Y)=>HSF.out Y _ (HM6.out.later hy) (HX6.out.below hy HX6.out.lt));refine hK.out _ _ (fun _=>HSB6.out w6 (Below.refl _ _)) ?_;clear hK K;have hHeld:(fun(v:World)=>v.cell? ⟨mb,10,none⟩=some (.slice (some ⟨ba,0,none⟩) np ca)∧v.cell? ⟨eb,0,none⟩=some (.int .i64 ed)∧v.cell? ⟨eb,1,none⟩=some (.int .i64 ea)∧v.cell? ⟨eb,2,none⟩=some (.pointer qv)∧v.cell? ⟨ba,ed,none⟩=some (.pointer (some ⟨pd.h,0,none⟩))∧v.cell? ⟨ba,ea,none⟩=some (.pointer (some ⟨pa.h,0,none⟩))) w6:=HSB6.out w6 (Below.refl _ _)
       refine takeQ 11 hHeld ?_;simp only[setS,setZ];refine takeQ 12 hHeld ?_;simp only[setS,setZ];refine takeQ 13 hHeld ?_;simp only[setS,setZ];clear hHeld;refine nextK 14 (by kernel_rfl) rfl rfl (fun K hK=>?_);go_simp;refine hK.out _ _ (fun h=>absurd rfl h) ?_;clear hK K;refine doneK (by kernel_rfl) ?_ _;have e3:w6.cell? ⟨eb,3,none⟩=some (.bool ef):=Blk.cell HX6.out 3;have el6:=HX6.out.lt;cases ef with
       | false=>
        have HPT:=Hd (HPF.out rfl);go_wp2_with fail
        go_roundw
        case rel=>exact⟨k+1,mm,_,by omega,by go_num,rfl,HM6,HPT.out⟩
        case measure=>simp[intOf];omega
       | true=>
        have HPG:=Hd (HPT0.out rfl);have HOP0:=Hd ((HM6.out.later ((Below.refl _ w6).drew)).or_place HPD.out HPAA.out);have HNE6:Hid (∀(cs:Array Value),∀b,Blk w6.drew b 240 cs→¬XP P b):=Hd (fun cs b hb=>by rintro⟨p,hp,rfl⟩;obtain⟨T,hT⟩:=(HM6.out.later ((Below.refl _ w6).drew)).fam.mem hp;exact Blk.ne_ hb hT.words (by decide) rfl)
        rw[HX12.out.1,HX12.out.2]at HOP0;obtain⟨b2,hb2⟩:∃b,(X2 != X1)=b:=⟨_,rfl⟩
        unfold SetH.v at HOP0;have HOP:=Hd HOP0.out;rw[hb2]at HOP HPG;clear HOP0 hb2;cases b2 with
        | true=>
         have HPT:=HPG;go_upto_region 7 with fail
         refine wp_regionK 20 (fun(v:World)=>v.cell? ⟨mb,10,none⟩=some (.slice (some ⟨ba,0,none⟩) np ca)∧v.cell? ⟨eb,0,none⟩=some (.int .i64 ed)∧v.cell? ⟨eb,1,none⟩=some (.int .i64 ea)∧v.cell? ⟨eb,2,none⟩=some (.pointer qv)∧v.cell? ⟨ba,ed,none⟩=some (.pointer (some ⟨pd.h,0,none⟩))∧v.cell? ⟨ba,ea,none⟩=some (.pointer (some ⟨pa.h,0,none⟩))) (by kernel_rfl) ?_;have hHeld:(fun(v:World)=>v.cell? ⟨mb,10,none⟩=some (.slice (some ⟨ba,0,none⟩) np ca)∧v.cell? ⟨eb,0,none⟩=some (.int .i64 ed)∧v.cell? ⟨eb,1,none⟩=some (.int .i64 ea)∧v.cell? ⟨eb,2,none⟩=some (.pointer qv)∧v.cell? ⟨ba,ed,none⟩=some (.pointer (some ⟨pd.h,0,none⟩))∧v.cell? ⟨ba,ea,none⟩=some (.pointer (some ⟨pa.h,0,none⟩))) w6.drew:=HSB6.out _ ((Below.refl _ w6).drew)
         refine takeQ 0 hHeld ?_;simp only[setS,setZ];refine takeQ 1 hHeld ?_;simp only[setS,setZ];refine takeQ 2 hHeld ?_;simp only[setS,setZ];refine takeQ 3 hHeld ?_;simp only[setS,setZ];refine takeQ 4 hHeld ?_;simp only[setS,setZ];refine takeQ 5 hHeld ?_;simp only[setS,setZ];refine takeQ 6 hHeld ?_;simp only[setS,setZ];refine takeQ 7 hHeld ?_;simp only[setS,setZ];refine takeQ 8 hHeld ?_;simp only[setS,setZ];refine takeQ 9 hHeld ?_;simp only[setS,setZ];refine takeQ 10 hHeld ?_;simp only[setS,setZ];refine takeQ 11 hHeld ?_;simp only[setS,setZ];refine takeQ 12 hHeld ?_;simp only[setS,setZ];refine takeQ 13 hHeld ?_;simp only[setS,setZ]
         refine takeQ 14 hHeld ?_;simp only[setS,setZ];refine takeQ 15 hHeld ?_;simp only[setS,setZ];clear hHeld;refine nextK 16 (by kernel_rfl) rfl rfl (fun K hK=>?_);go_simp;refine HOP.out.mono ?_;rintro e w7 ⟨rfl,hm7,hc7⟩;have HM7:=Hd hm7;have hb7:=HX6.out.below ((Below.refl _ w6).drew) HX6.out.lt;have HX7:=Hd (hc7.blk hb7 (fun e=>HNE6.out _ _ hb7 e));clear hc7 hm7 hb7;have HSB7:=Hd (fun Y (hy:Below w7.heap.size w7 Y)=>HSF.out Y _ (HM7.out.later hy) (HX7.out.below hy HX7.out.lt));refine hK.out _ _ (fun _=>HSB7.out w7 (Below.refl _ _)) ?_;clear hK K;have hHeld:(fun(v:World)=>v.cell? ⟨mb,10,none⟩=some (.slice (some ⟨ba,0,none⟩) np ca)∧v.cell? ⟨eb,0,none⟩=some (.int .i64 ed)∧v.cell? ⟨eb,1,none⟩=some (.int .i64 ea)∧v.cell? ⟨eb,2,none⟩=some (.pointer qv)∧v.cell? ⟨ba,ed,none⟩=some (.pointer (some ⟨pd.h,0,none⟩))∧v.cell? ⟨ba,ea,none⟩=some (.pointer (some ⟨pa.h,0,none⟩))) w7:=HSB7.out w7 (Below.refl _ _)
         refine takeQ 17 hHeld ?_;simp only[setS,setZ];refine takeK 18 rfl (by kernel_rfl) (by kernel_rfl) (by kernel_rfl) (by kernel_rfl) (fun _ _ _ h=>h) (Or.inr ⟨by rfl,rfl⟩) hHeld rfl ?rk18;simp only[List.set_cons_succ,List.set_cons_zero];refine takeQ 19 hHeld ?_;simp only[setS,setZ];clear hHeld;refine nextK 20 (by kernel_rfl) rfl rfl (fun K hK=>?_);go_simp;refine hK.out _ _ (fun h=>absurd rfl h) ?_;clear hK K;refine doneK (by kernel_rfl) ?_ _;go_wp2_with fail
         go_roundw
         case rel=>exact⟨k+1,true,_,by omega,by go_num,rfl,HM7,HPT.out⟩
         case measure=>simp[intOf];omega
        | false=>
         have HPT:=HPG;go_upto_region 7 with fail
         refine wp_regionK 20 (fun(v:World)=>v.cell? ⟨mb,10,none⟩=some (.slice (some ⟨ba,0,none⟩) np ca)∧v.cell? ⟨eb,0,none⟩=some (.int .i64 ed)∧v.cell? ⟨eb,1,none⟩=some (.int .i64 ea)∧v.cell? ⟨eb,2,none⟩=some (.pointer qv)∧v.cell? ⟨ba,ed,none⟩=some (.pointer (some ⟨pd.h,0,none⟩))∧v.cell? ⟨ba,ea,none⟩=some (.pointer (some ⟨pa.h,0,none⟩))) (by kernel_rfl) ?_;have hHeld:(fun(v:World)=>v.cell? ⟨mb,10,none⟩=some (.slice (some ⟨ba,0,none⟩) np ca)∧v.cell? ⟨eb,0,none⟩=some (.int .i64 ed)∧v.cell? ⟨eb,1,none⟩=some (.int .i64 ea)∧v.cell? ⟨eb,2,none⟩=some (.pointer qv)∧v.cell? ⟨ba,ed,none⟩=some (.pointer (some ⟨pd.h,0,none⟩))∧v.cell? ⟨ba,ea,none⟩=some (.pointer (some ⟨pa.h,0,none⟩))) w6.drew:=HSB6.out _ ((Below.refl _ w6).drew)
         refine takeQ 0 hHeld ?_;simp only[setS,setZ];refine takeQ 1 hHeld ?_;simp only[setS,setZ];refine takeQ 2 hHeld ?_;simp only[setS,setZ];refine takeQ 3 hHeld ?_;simp only[setS,setZ];refine takeQ 4 hHeld ?_;simp only[setS,setZ];refine takeQ 5 hHeld ?_;simp only[setS,setZ];refine takeQ 6 hHeld ?_;simp only[setS,setZ];refine takeQ 7 hHeld ?_;simp only[setS,setZ];refine takeQ 8 hHeld ?_;simp only[setS,setZ];refine takeQ 9 hHeld ?_;simp only[setS,setZ];refine takeQ 10 hHeld ?_;simp only[setS,setZ];refine takeQ 11 hHeld ?_;simp only[setS,setZ];refine takeQ 12 hHeld ?_;simp only[setS,setZ];refine takeQ 13 hHeld ?_;simp only[setS,setZ]
         refine takeQ 14 hHeld ?_;simp only[setS,setZ];refine takeQ 15 hHeld ?_;simp only[setS,setZ];clear hHeld;refine nextK 16 (by kernel_rfl) rfl rfl (fun K hK=>?_);go_simp;refine HOP.out.mono ?_;rintro e w7 ⟨rfl,hm7,hc7⟩;have HM7:=Hd hm7;have hb7:=HX6.out.below ((Below.refl _ w6).drew) HX6.out.lt;have HX7:=Hd (hc7.blk hb7 (fun e=>HNE6.out _ _ hb7 e));clear hc7 hm7 hb7;have HSB7:=Hd (fun Y (hy:Below w7.heap.size w7 Y)=>HSF.out Y _ (HM7.out.later hy) (HX7.out.below hy HX7.out.lt));refine hK.out _ _ (fun _=>HSB7.out w7 (Below.refl _ _)) ?_;clear hK K;have hHeld:(fun(v:World)=>v.cell? ⟨mb,10,none⟩=some (.slice (some ⟨ba,0,none⟩) np ca)∧v.cell? ⟨eb,0,none⟩=some (.int .i64 ed)∧v.cell? ⟨eb,1,none⟩=some (.int .i64 ea)∧v.cell? ⟨eb,2,none⟩=some (.pointer qv)∧v.cell? ⟨ba,ed,none⟩=some (.pointer (some ⟨pd.h,0,none⟩))∧v.cell? ⟨ba,ea,none⟩=some (.pointer (some ⟨pa.h,0,none⟩))) w7:=HSB7.out w7 (Below.refl _ _)
         refine takeQ 17 hHeld ?_;simp only[setS,setZ];refine takeQ 18 hHeld ?_;simp only[setS,setZ];refine takeQ 19 hHeld ?_;simp only[setS,setZ];clear hHeld;refine nextK 20 (by kernel_rfl) rfl rfl (fun K hK=>?_);go_simp;refine hK.out _ _ (fun h=>absurd rfl h) ?_;clear hK K;refine doneK (by kernel_rfl) ?_ _;go_wp2_with fail
         go_roundw
         case rel=>exact⟨k+1,mm,_,by omega,by go_num,rfl,HM7,HPT.out⟩
         case measure=>simp[intOf];omega
    ·obtain rfl:k=ne:=by omega
     have HEND:Hid (A=A'∧mm=m'):=Hd (by have h:=HPA.out;rw[List.drop_eq_nil_of_le (by rw[lM,HNE.out];exact leR _)]at h;unfold Gz.spreadPass at h;exact⟨congrArg Prod.fst h,congrArg Prod.snd h⟩)
     obtain⟨hA1,hm1⟩:=HEND.out;subst hA1;subst hm1;cases mm with
     | true=>
      have HN2:Hid (Gz.spreadI (ED.map (·.2)) m A=some Sf):=Hd (by have h:=HNEXT.out;rwa [if_pos rfl]at h);go_wp2_with fail
      go_step3
      refine jump_goto ?_;exact⟨m,Nat.lt_succ_self m,A,HA,HN2,rfl⟩
     | false=>
      have HN2:Hid (A=Sf):=Hd (by have h:=HNEXT.out;rwa [if_neg (by simp)]at h);rw[HN2.out]at HA;go_wp2_with fail
      simp only[Exit.jump]
      go_end0
      exact⟨rfl,HA.out⟩
end
end Go.Proofs.YthaacmablcpdfaaGreatDoor
