/- What comes with a nonterminal. -/
import Derived.Test.YthaacmablcpdfaaGreatDoorZbh
import Derived.Deep.DeepCutAuto
import Derived.Test.YthaacmablcpdfaaGreatDoorNm
namespace Go.Proofs.YthaacmablcpdfaaGreatDoor
open Go.RowKit
set_option linter.unusedVariables false
set_option maxRecDepth 100000
theorem Cst.hand{w wr:World}{mm nD ob oc m:Nat}{tv mp:Value}{Z:List (SetH×Come)}{todo:List Nat}{D:DataW Unit}(h:Cst w wr mm nD ob oc m tv Z todo D){i j sx S:Nat}{xs emp:Bool}{x z:SetH×Come}{ht:SetH}(hi:Z[i]?=some x)(hj:Z[j]?=some z)(hset:SetAt wr ht S)(hn:ht.n=m)(hw:ht.wb<w.heap.size) :
  Calls Tryz.prog 199 #[mp,.agg #[.int .i64 sx,x.1.v,.bool xs],.pointer (some ⟨ob,j*3,none⟩),.agg #[ht.v,.bool emp]] wr fun e w'=>e=.returned (.bool (handC xs x.2.set z.2 (i==j) (S,emp)).2)∧Cst w w' mm nD ob oc m tv (Z.set j (z.1,(handC xs x.2.set z.2 (i==j) (S,emp)).1)) todo D∧Chg (fun k=>k=ob∨k=z.1.wb) wr w':=by
 obtain⟨a1,a2⟩:=h.set_at hi;obtain⟨b1,b2⟩:=h.set_at hj;obtain⟨c0,c1,c2,c3⟩:=h.cells hj;obtain⟨cur,hcur,hob⟩:=h.blk;have hz:=h.new z (mG hj);have hs:(handC xs x.2.set z.2 (i==j) (S,emp)).1.s=z.2.s:=by
  unfold handC;split
  ·rfl
  ·split
   ·rfl
   ·split<;>rfl
 refine(hand_any (mp:=mp) (sx:=sx) (s2:=z.2.s) (xs:=xs) (emp:=emp) (own:=i==j) a1 hset b1 (a2.trans b2.symm) (hn.trans b2.symm) ?_ (by omega) c1 c2 c3 (Blk.ne_ hcur b1.words (by decide))).mono ?_
 ·by_cases hij:i=j
  ·subst hij
   rw[hi]at hj;cases hj
   simp
  ·have:(i==j)=false:=beq_false_of_ne hij
   rw[this,if_neg (by simp)];exact h.apart hi hj hij
 ·intro e w' he
  have h1:=h.handed hj hs he;exact⟨he.1,h1⟩
theorem Gz.Fit.right_le{g:Gz}(h:g.Fit){k x:Nat}(hx:x∈g.right k):x≤g.top:=by
 unfold Gz.right Gz.rule at hx;split at hx
 ·simp at hx
  rw[hx];exact h.start.2
 ·rw[dG]at hx
  cases hq:g.R[k]? with
  | none=>rw[hq]at hx;cases hx
  | some r=>rw[hq]at hx;exact(h.right r (mG hq) x hx).2
theorem comeRule_nil{g:Gz}{T:List (List (Nat×Bool))}{i:Nat}{xs:Bool}{p:List Come×List Nat}{k:Nat}(h:g.right k=[]):g.comeRule T i xs p k=p:=by unfold Gz.comeRule;rw[h]
theorem comeRule_term{g:Gz}{T:List (List (Nat×Bool))}{i:Nat}{xs:Bool}{p:List Come×List Nat}{k y:Nat}{r:List Nat}(h:g.right k=y::r)(hy:g.non y=false):g.comeRule T i xs p k=p:=by unfold Gz.comeRule;rw[h];simp only;rw[if_pos hy]
theorem comeRule_old{g:Gz}{T:List (List (Nat×Bool))}{i:Nat}{xs:Bool}{out:List Come}{todo:List Nat}{k y j:Nat}{r:List Nat}{ci cj:Come}(h:g.right k=y::r)(hy:g.non y=true)(hj:posC out y=some j)(hi:out[i]?=some ci)(hcj:out[j]?=some cj):g.comeRule T i xs (out,todo) k=(out.set j (handC xs ci.set cj (i==j) (Gz.tailAt T k 0)).1,if (handC xs ci.set cj (i==j) (Gz.tailAt T k 0)).2 then todo++[j] else todo):=by unfold Gz.comeRule;rw[h];simp only;rw[if_neg (by rw[hy];simp)];unfold posC at hj;rw[hj];simp only;rw[dG,hi,dG,hcj];rfl
theorem comeRule_new{g:Gz}{T:List (List (Nat×Bool))}{i:Nat}{xs:Bool}{out:List Come}{todo:List Nat}{k y:Nat}{r:List Nat}{ci:Come}(h:g.right k=y::r)(hy:g.non y=true)(hj:posC out y=none)(hi:out[i]?=some ci):g.comeRule T i xs (out,todo) k=((out++[(⟨y,0,false⟩:Come)]).set out.length (handC xs ci.set ⟨y,0,false⟩ (i==out.length) (Gz.tailAt T k 0)).1,todo++[out.length]):=by have hlt:=(sG.1 hi).1;unfold Gz.comeRule;rw[h];simp only;rw[if_neg (by rw[hy];simp)];unfold posC at hj;rw[hj];simp only;rw[dG,hi,show (i==out.length)=false from beq_false_of_ne (by omega),List.set_append_right _ _ (leR _),Nat.sub_self];rfl
def frameC(mb s mm ob nz oc:Nat)(tv:Value)(f:Nat→Value):Act:={tmps:=#[.pointer (some ⟨mb,0,none⟩),.int .i64 s,f 2,f 3,.slice none 0 0,.map (some mm),.slice (some ⟨ob,0,none⟩) nz oc,tv,f 8,f 9,f 10,f 11,f 12,f 13,f 14,f 15,f 16,f 17,f 18,f 19,f 20,f 21,f 22,f 23,f 24,f 25,f 26,f 27,f 28,f 29,f 30,f 31,f 32,f 33,f 34,f 35,f 36,f 37,f 38,f 39,f 40,f 41,f 42,f 43,f 44,f 45,f 46,f 47,f 48,f 49,f 50,f 51,f 52,f 53,f 54,f 55,f 56,f 57,f 58,f 59,f 60,f 61,f 62,f 63,f 64,f 65,f 66,f 67,f 68,f 69,f 70,f 71,f 72,f 73,f 74,f 75,f 76,f 77,f 78,f 79,f 80,f 81,f 82,f 83,f 84,f 85,f 86,f 87,f 88,f 89,f 90,f 91,f 92,f 93,f 94,f 95,f 96,f 97,f 98,f 99,f 100,f 101,f 102,f 103,f 104,f 105,f 106,f 107,f 108,f 109,f 110,f 111,f 112,f 113,f 114,f 115,f 116,f 117,f 118],defers:=[]}
set_option maxHeartbeats 16000000 in
theorem coming_any{w:World}{mb s:Nat}{v rv uv tlv:Value}{g:Gz}{T:List (List (Nat×Bool))}{CC:List Come}(hg:GN w v g)(hm:∀j,j<4→w.cell? ⟨mb,j,none⟩=v.cells[j]?)(c5:w.cell? ⟨mb,5,none⟩=some rv)(c6:w.cell? ⟨mb,6,none⟩=some tlv)(c7:w.cell? ⟨mb,7,none⟩=some uv)
  (hR:RtsA (Old w.heap.size) w rv (g.R.length+1) g.right) (hU:RtsA (Old w.heap.size) w uv (g.top+1) g.ofL) (hT:TlsA (Old w.heap.size) w (g.nt+1) tlv (g.R.length+1) T) (hTl:∀k,k≤g.R.length→(T.getD k []).length=(g.right k).length) (hs1:g.nt<s) (hs2:s≤g.top) (hc:g.comesK T s=some CC) :
  Calls Tryz.prog 153 #[.pointer (some ⟨mb,0,none⟩),.int .i64 s] w fun e w'=>∃cv,e=.returned cv∧CmA (fun b=>w.heap.size≤b∧b<w'.heap.size) w' (g.nt+1) cv CC∧Below w.heap.size w w':=by
 have hfit:=hg.fit;have hnt:=hfit.nt;have hnn:=hfit.nn;have hnr:=hfit.nr;have hmp:∀y:World,(Instr.makeMap 245 none).run Tryz.prog y=.ok (.map (some y.heap.size)) (y.alloc (.map #[] 0)):=fun y=>by kernel_rfl
 obtain⟨AT,cT,AN,cN,AR,cR,rfl,-,-⟩:=hg.open_;have hmb:mb<w.heap.size:=World.block_lt_of_cell? w _ (hm 0 (by omega));have HC:Hid (∀y,Below w.heap.size w y→y.cell? ⟨mb,0,none⟩=some (.slice AT g.nt cT)∧y.cell? ⟨mb,1,none⟩=some (.slice AN g.nn cN)∧y.cell? ⟨mb,2,none⟩=some (.slice AR g.R.length cR)∧y.cell? ⟨mb,3,none⟩=some (.int .i64 g.s)∧y.cell? ⟨mb,5,none⟩=some rv∧y.cell? ⟨mb,6,none⟩=some tlv∧y.cell? ⟨mb,7,none⟩=some uv):=Hd (fun y hy=>by
  have hh:∀j u,w.cell? ⟨mb,j,none⟩=some u→y.cell? ⟨mb,j,none⟩=some u:=fun j u hu=>(hy.cell (p:=⟨mb,j,none⟩) hmb).trans hu
  exact⟨hh 0 _ (hm 0 (by omega)),hh 1 _ (hm 1 (by omega)),hh 2 _ (hm 2 (by omega)),hh 3 _ (hm 3 (by omega)),hh 5 _ c5,hh 6 _ c6,hh 7 _ c7⟩)
 have HRX:Hid (∀y,Below w.heap.size w y→RtsA (Old w.heap.size) y rv (g.R.length+1) g.right):=Hd (fun y hy=>hR.chg (Chg.of_below (X:=fun b=>w.heap.size≤b) hy) (fun b hb h=>by unfold Old at hb;omega));have HUX:Hid (∀y,Below w.heap.size w y→RtsA (Old w.heap.size) y uv (g.top+1) g.ofL):=Hd (fun y hy=>hU.chg (Chg.of_below (X:=fun b=>w.heap.size≤b) hy) (fun b hb h=>by unfold Old at hb;omega));have HTX:Hid (∀y,Below w.heap.size w y→TlsA (Old w.heap.size) y (g.nt+1) tlv (g.R.length+1) T):=Hd (fun y hy=>hT.chg (Chg.of_below (X:=fun b=>w.heap.size≤b) hy) (fun b hb h=>by unfold Old at hb;omega))
 have HNO:=Hd (fun y (hy:Below w.heap.size w y) (x:Nat)=>nonN_any (hg.later hy) x);have HLS:Hid (∀y,Below w.heap.size w y→Calls Tryz.prog 152 #[.pointer (some ⟨mb,0,none⟩),.slice none 0 0] y fun e w'=>∃h:SetH,e=.returned h.v∧h.n=g.nt+1∧y.heap.size≤h.h∧y.heap.size≤h.wb∧SetAt w' h 0∧Below y.heap.size y w'):=Hd (fun y hy=>by have h0:=(hy.cell (p:=⟨mb,0,none⟩) hmb).trans (hm 0 (by omega));exact lset_any (l:=[]) h0 hnt ⟨⟨none,0,rfl,fun k x hx=>by simp at hx⟩,by simp,fun A n c e=>by cases e;exact⟨leR _,fun _=>rfl⟩⟩ (fun x hx=>by cases hx))
 have HTL:=Hd hTl;have HCK:=Hd hc;have HFIT:=Hd hfit;have htop:g.top≤1000:=by unfold Gz.top;omega
 clear hg hm c5 c6 c7 hR hU hT hTl hc hfit;go_enter Tryz.func153,Tryz.ntmps153
 go_wp2;refine wp_scope_ghost 0 (fun n a' wr=>∃(mm nD ob oc:Nat) (tv:Value) (Z:List (SetH×Come)) (todo:List Nat) (D:DataW Unit),Hid (Cst w wr mm nD ob oc (g.nt+1) tv Z todo D)∧Hid (g.comeLoop T n (Z.map (·.2)) todo=some CC)∧nD≤Z.length∧Z.length≤20000∧Hid (∀z∈Z,z.2.s≤g.top)∧a'=frameC mb s mm ob Z.length oc tv (fun i=>a'.tmps.getD i undef)) rfl ?pass ?first
 case first=>
  intro HJ;have HJX:=Hd HJ;clear HJ;have hs100:s≤100000:=by omega
  have hm0:IMap (w.alloc (.map #[] 0)) w.heap.size 0 (.map []):=World.ownsMap_made (H:=Unit) w Tryz.prog 3 (plainElem Tryz.prog 3);obtain⟨w1,hput,hm1,hg1⟩:=po_put hm0 (by omega) (s:=s) (c:=0) hs100 (by omega);rw[show ((0:Nat):Int)=0 from rfl]at hput;have HB1:Hid (Below w.heap.size w w1):=Hd (((Below.refl _ w).alloc (leR _) _).trans ((Chg.of_map hg1).below (by simp) (fun k hk e=>by have e2:k=w.heap.size:=e;omega)));have HM1:=Hd hm1;have HIM:=Hd hm0.isMap;clear hm0 hm1 hg1;go_wp2_with (
         go_at_call 152;refine(HLS.out _ HB1.out).mono ?_;rintro e w2 ⟨h0,rfl,hn0,hh0,hw0,hs0,hb2⟩
         have HS2:=Hd (And.intro hn0 (And.intro (And.intro hh0 hw0) hs0));have HB2:=Hd hb2;unfold SetH.v;clear hn0 hh0 hw0 hs0 hb2)
  go_step3
  simp only[Exit.then];apply_assumption
  refine HJX.out Gz.comeFuel _ _ ?_;refine⟨w.heap.size,1,w2.heap.size,1,.slice (some ⟨w2.heap.size+1,0,none⟩) 1 1,[(h0,⟨s,0,true⟩)],[0],_,Hd (?_:Cst _ _ _ _ _ _ _ _ _ _ (DataW.put (.map []) (klN s) (.lit (.int .i64 ((0:Nat):Int))))),HCK,leR _,by simp,Hd (fun z hz=>by rw[mS.1 hz];exact hs2),rfl⟩;have hz1:=HB1.out.size;have hz2:=HB2.out.size;have hb3:Below w.heap.size w w2:=HB1.out.trans (HB2.out.mono hz1);obtain⟨hn0,⟨hh0,hw0⟩,hs0⟩:=HS2.out;refine⟨(hb3.alloc hb3.size _).alloc (by simp;omega) _,?_,?_,?_,?_,(((Chg.of_below (X:=fun _=>False) HB2.out).map HM1.out id).alloc _).alloc _,?_,leR _,?_⟩
  ·refine⟨rfl,.inr ⟨w2.heap.size,1,#[.int .i64 s,h0.v,.bool true],rfl,hb3.size,(Blk.new w2 242 _).alloc _,leR _,by decide,rfl,rfl⟩⟩
  ·have hf:=(Fam.nil w1 (g.nt+1)).push HB2.out hs0 hn0 hw0
   have hf2:=(hf.later (below_alloc1 w2 (.cells #[.int .i64 s,h0.v,.bool true] 242))).later (below_alloc1 _ (.cells #[.int .i64 0] 3));exact hf2
  ·intro z hz
   rw[mS.1 hz];simp only;omega
  ·refine⟨rfl,.inr ⟨w2.heap.size+1,0,1,#[.int .i64 0],rfl,by omega,Blk.newAt (by simp),leR _,by decide,by simp,fun j u hu=>?_⟩⟩
   match j,hu with
   | 0,hu=>simpa [NatV] using hu
   | j+1,hu=>simp at hu
  ·refine(PoD.start.next HIM.out s 0).congr fun a=>?_
   unfold posC;by_cases ha:a=s
   ·subst ha;simp
   ·have:(s==a)=false:=beq_false_of_ne (fun e=>ha e.symm)
    simp[ha,this]
  ·intro i hi
   rw[mS.1 hi];simp
 case pass=>
  rintro n a' wr ⟨mm,nD,ob,oc,tv,Z,todo,D,HS,HCL,hnD,hzl,HZS,ha⟩;obtain⟨f,hf⟩:∃f,a'=frameC mb s mm ob Z.length oc tv f:=⟨_,ha⟩
  clear ha;subst hf;unfold frameC;obtain⟨Aq,cq,htv⟩:=HS.out.que.shape;subst htv;cases n with
  | zero=>have h:=HCL.out;simp[Gz.comeLoop]at h
  | succ n=>
   cases todo with
   | nil=>
    have HE:Hid (Z.map (·.2)=CC):=Hd (by have h:=HCL.out;unfold Gz.comeLoop at h;exact Option.some.inj h);go_wp2;simp only[Exit.jump];go_ret;refine⟨_,rfl,?_,HS.out.below⟩;have hl:CC.length=Z.length:=by rw[←HE.out,lM]
    obtain⟨cur,hcur,hob⟩:=HS.out.blk;have hrc:=row_capQ HS.out.row;unfold CmA;rw[hl];refine⟨_,oc,rfl,hrc.1,by omega,fun k hk=>⟨ob,0,rfl,⟨hob,hcur.lt⟩,hcur.lt,fun j hj=>?_⟩⟩;obtain⟨z,hz⟩:∃z,Z[k]?=some z:=⟨_,eG hk⟩
    have hcg:CC.getD k ⟨0,0,false⟩=z.2:=by rw[←HE.out,dG,pG,hz];rfl
    obtain⟨c0,c1,c2,-⟩:=HS.out.cells hz;obtain⟨a1,a2⟩:=HS.out.set_at hz;have hzn:=HS.out.new z (mG hz);show ∃x,wr.cell? ⟨ob,0+k*3+j,none⟩=some x∧(if j=0 then x=.int .i64 ((CC.getD k ⟨0,0,false⟩).s:Nat) else if j=1 then ∃h:SetH,x=h.v∧h.n=g.nt+1∧SetA (fun b=>w.heap.size≤b∧b<wr.heap.size) wr h (CC.getD k ⟨0,0,false⟩).set else x=.bool (CC.getD k ⟨0,0,false⟩).self)
    rw[hcg,Nat.zero_add]
    match j,hj with
    | 0,_=>exact⟨_,c0,rfl⟩
    | 1,_=>exact⟨_,c1,z.1,rfl,a2,a1,⟨hzn.1,a1.head.lt⟩,⟨hzn.2,a1.words.lt⟩⟩
    | 2,_=>exact⟨_,c2,rfl⟩
   | cons i todo=>
    have hq0:=HCL.out;unfold Gz.comeLoop at hq0;have hgd:Z.length+todo.length≤10000:=by
     split at hq0
     ·cases hq0
     ·rename_i h;rw[lM]at h;omega
    rw[if_neg (by rw[lM];omega)]at hq0;have hiz:=HS.out.tb i (by simp);obtain⟨⟨hx,cx⟩,hZi⟩:∃z,Z[i]?=some z:=⟨_,eG hiz⟩
    have hgx:(Z.map (·.2)).getD i ⟨0,0,false⟩=cx:=by rw[dG,pG,hZi];rfl
    rw[hgx]at hq0;have HCN:=Hd hq0;obtain⟨q,off,hAq,hql,hqc,hqq⟩:=HS.out.que.at_ (by simp);subst hAq;have q0:wr.cell? ⟨q,off,none⟩=some (.int .i64 i):=by have:=hqq 0 _ rfl;simpa [NatV] using this
    simp only[List.length_cons]at hqc;obtain⟨off',hoff,hoff2⟩:∃off':Nat,(if cq=1 then some (⟨q,off,none⟩:Addr) else some ⟨q,off+1,none⟩)=some ⟨q,off',none⟩∧(off'=off+1∨(cq=1∧off'=off)):=by
     by_cases h1:cq=1
     ·exact⟨off,by rw[if_pos h1],.inr ⟨h1,rfl⟩⟩
     ·exact⟨off+1,by rw[if_neg h1],.inl rfl⟩
    have hct1:(1:Int)≤(cq:Int):=by omega
    have hct2:((todo.length:Int)+1)≤(cq:Int):=by omega
    have hpos:(0:Int)<((todo.length:Int)+1):=by omega
    have hnz:(((todo.length:Int)+1)==0)=false:=by rw[bN];omega
    have HST:=Hd (HS.out.tailed (OwnQ.tail HS.out.que hoff2));obtain⟨x0,x1,x2,-⟩:=HS.out.cells hZi;simp only at x0 x1 x2;unfold SetH.v at x1;have hiz2:(i:Int)<(Z.length:Int):=by omega
    have HXB:=Hd (Blk.new wr 242 #[.int .i64 (cx.s:Nat),.pointer (some ⟨hx.h,0,none⟩),.bool cx.self]);have HSB:=Hd (HST.out.later (below_alloc1 wr (.cells #[.int .i64 (cx.s:Nat),.pointer (some ⟨hx.h,0,none⟩),.bool cx.self] 242)));have HZI:=Hd hZi;clear hqq hoff2 hq0 hgx hZi hqc;have hcs:cx.s≤g.top:=HZS.out _ (mG HZI.out);obtain⟨y0,y1,y2,y3,y5,y6,y7⟩:=HC.out _ HSB.out.below;obtain⟨bu,ou,cu,Ak,ck,huv,hbu,hul,hun2⟩:=(HUX.out _ HSB.out.below).at_ (k:=cx.s) (by omega);subst huv;have HUL:=Hd hun2;have hsl1:(cx.s:Int)<((g.top:Int)+1):=by omega
    have hsl2:(cx.s:Int)<((g.top+1:Nat):Int):=by omega
    go_upto_region 8 with fail
    have hmbW:mb<(wr.alloc (.cells #[.int .i64 (cx.s:Nat),.pointer (some ⟨hx.h,0,none⟩),.bool cx.self] 242)).heap.size:=by have:=HS.out.below.size;simp;omega
    have z0:(wr.alloc (.cells #[.int .i64 (cx.s:Nat),.pointer (some ⟨hx.h,0,none⟩),.bool cx.self] 242)).cell? ⟨wr.heap.size,0,none⟩=some (.int .i64 (cx.s:Nat)):=Blk.cell HXB.out 0;have zl:wr.heap.size<(wr.alloc (.cells #[.int .i64 (cx.s:Nat),.pointer (some ⟨hx.h,0,none⟩),.bool cx.self] 242)).heap.size:=Blk.lt HXB.out;have hobx0:ob≠wr.heap.size:=by obtain⟨cur,hcur,_⟩:=HS.out.blk;have:=hcur.lt;omega
    have hrl:(g.ofL cx.s).length≤300:=leT (ofL_len g cx.s) hnr;have hrk:∀k∈g.ofL cx.s,k<g.R.length:=fun k hk=>by unfold Gz.ofL at hk;exact List.mem_range.1 (List.mem_filter.1 hk).1
    have HRK:=Hd hrk;generalize hrules:g.ofL cx.s=rules at *;have HRU:=Hd hrules;generalize hnr2:rules.length=nr at *;have HNR:=Hd hnr2;generalize hxb:wr.heap.size=xb at *;have HXX:=Hd hxb;generalize wr.alloc (.cells #[.int .i64 (cx.s:Nat),.pointer (some ⟨hx.h,0,none⟩),.bool cx.self] 242)=W at *;clear hrules hnr2 hxb hrk hun2 q0 hoff hct1 hct2 hpos hnz x0 x1 x2 hql;go_quiet (fail)
    have HD:∀n,Below W.heap.size W (W.drewN n):=fun n=>⟨rfl,rfl,rfl,leR _,fun _ _=>rfl⟩
    have HSD:=Hd (HSB.out.later (HD nq));have HXD:=Hd (HXB.out.below (HD nq) HXB.out.lt);have HUD:Hid (NumsA (Old w.heap.size) (W.drewN nq) (.slice Ak nr ck) rules):=Hd (HUL.out.chg (Chg.of_below (X:=fun _=>False) (HD nq)) (fun _ _=>id));generalize W.drewN nq=W1 at *;clear HD z0 zl hul y0 y1 y2 y3 y5 y6 y7 hmbW;go_wp2_with fail
    go_loopw [6,7,44] (fun ov tv jj wy=>∃(k nD' ob' oc':Nat) (Z':List (SetH×Come)) (todo':List Nat) (D':DataW Unit),k≤nr∧jj=.int .i64 k∧ov=.slice (some ⟨ob',0,none⟩) Z'.length oc'∧Hid (Cst w wy mm nD' ob' oc' (g.nt+1) tv Z' todo' D')∧Hid (Blk wy xb 242 #[.int .i64 (cx.s:Nat),.pointer (some ⟨hx.h,0,none⟩),.bool cx.self])∧ob'≠xb∧Hid ((Z'.map (·.2),todo')=(rules.take k).foldl (g.comeRule T i cx.self) (Z.map (·.2),todo))∧Hid (∃c,Z'[i]?=some (hx,c))∧nD'≤Z'.length∧Z'.length≤Z.length+k∧todo'.length≤todo.length+k∧Hid (∀z∈Z',z.2.s≤g.top)∧Hid (NumsA (Old w.heap.size) wy (.slice Ak nr ck) rules)) (fun _ _ jj _=>nr-(intOf jj).toNat)
    case atStart=>exact⟨0,nD,ob,oc,Z,todo,D,zeL _,rfl,rfl,HSD,HXD,hobx0,Hd rfl,Hd ⟨cx,HZI.out⟩,hnD,by omega,by omega,HZS,HUD⟩
    case round=>
     obtain⟨k,nD',ob',oc',Z',todo',D',hk,rfl,rfl,HS2,HX2,hobx,HE2,HZ2,hn2,hz2,ht2,HZS2,HU2⟩:=hrel;rename World=>w7
     by_cases hlt:k<nr
     ·obtain⟨rk,hrk⟩:∃x,rules[k]?=some x:=⟨_,eG (by rw[HNR.out];exact hlt)⟩
      have hrkR:=HRK.out rk (mG hrk);obtain⟨bk,ok,hAk,hbA,hbk,hcell⟩:=HU2.out.at_ hrk;subst hAk;have HB7:=Hd HS2.out.below;obtain⟨y0,y1,y2,y3,y5,y6,y7⟩:=HC.out _ HB7.out;obtain⟨br,orr,cr,Aq2,cq2,hrv,hbr,hrl1,hrl2⟩:=(HRX.out _ HB7.out).at_ (k:=rk) (by omega);subst hrv;have HFO:=Hd (foldl_take (g.comeRule T i cx.self) rules (Z.map (·.2),todo) k rk hrk);rw[←HE2.out]at HFO;have hrk2:(rk:Int)<((g.R.length+1:Nat):Int):=by omega
      have hrk3:(rk:Int)<(g.R.length:Int)+1:=by omega
      have hnri:(k:Int)<(nr:Int):=by omega
      clear hrk;cases hright:g.right rk with
      | nil=>
       have HFN:=Hd (HFO.out.trans (comeRule_nil hright));rw[hright]at hrl1 hrl2;simp only[List.length_nil]at hrl1;clear hright;go_upto_region 12 with fail
       go_quiet (fail)
       have HD2:Hid (Below w7.heap.size w7 (w7.drewN nq)):=Hd ⟨rfl,rfl,rfl,leR _,fun _ _=>rfl⟩;go_wp2_with fail
       go_roundw
       case rel=>exact⟨k+1,nD',ob',oc',Z',todo',D',by omega,by go_num,rfl,Hd (HS2.out.later HD2.out),Hd (HX2.out.below HD2.out HX2.out.lt),hobx,Hd HFN.out.symm,HZ2,hn2,by omega,by omega,HZS2,Hd (HU2.out.chg (Chg.of_below (X:=fun _=>False) HD2.out) (fun _ _=>id))⟩
       case measure=>simp[intOf];omega
      | cons y rest=>
       rw[hright]at hrl1 hrl2;simp only[List.length_cons]at hrl1 hrl2;obtain⟨bq,oq,hAq2,hbqA,hbq,hcq⟩:=hrl2.at_ (k:=0) rfl;subst hAq2;rw[Nat.add_zero]at hcq;have hyt:y≤g.top:=HFIT.out.right_le (k:=rk) (x:=y) (by rw[hright];simp);have hne0:(((rest.length:Int)+1)==0)=false:=by rw[bN];omega
       have hpos2:(0:Int)<(rest.length:Int)+1:=by omega
       have HD0:Hid (Below w7.heap.size w7 w7.drew):=Hd ((Below.refl _ w7).drew);have HNY:=Hd (HNO.out w7.drew (HB7.out.trans (HD0.out.mono HB7.out.size)) y);have HSS:Hid (∀v,Below w7.heap.size w7 v→v.cell? ⟨mb,0,none⟩=some (.slice AT g.nt cT)∧v.cell? ⟨mb,1,none⟩=some (.slice AN g.nn cN)∧v.cell? ⟨mb,2,none⟩=some (.slice AR g.R.length cR)∧v.cell? ⟨mb,3,none⟩=some (.int .i64 g.s)∧v.cell? ⟨bq,oq,none⟩=some (.int .i64 y)):=Hd (fun v hv=>by obtain⟨a0,a1,a2,a3,-⟩:=HC.out _ (HB7.out.trans (hv.mono HB7.out.size));exact⟨a0,a1,a2,a3,(hv.cell (p:=⟨bq,oq,none⟩) hbq).trans hcq⟩)
       cases hy:g.non y with
       | false=>
        have HFN:=Hd (HFO.out.trans (comeRule_term hright hy));have HY:=Hd hy;clear hright hy hrl2;go_upto_region 12 with fail
        go_region_held3 (fun v=>v.cell? ⟨mb,0,none⟩=some (.slice AT g.nt cT)∧v.cell? ⟨mb,1,none⟩=some (.slice AN g.nn cN)∧v.cell? ⟨mb,2,none⟩=some (.slice AR g.R.length cR)∧v.cell? ⟨mb,3,none⟩=some (.int .i64 g.s)∧v.cell? ⟨bq,oq,none⟩=some (.int .i64 y))
          (first|exact HSS.out _ HD0.out|exact HSS.out _ HB8.out)
          (first|(
                  go_at_call 40;refine HNY.out.mono ?_;rintro e w8 ⟨rfl,hb8⟩
                  rw[HY.out];have HB8:=Hd (HD0.out.trans hb8);clear hb8))
        go_wp2_with fail
        go_roundw
        case rel=>exact⟨k+1,nD',ob',oc',Z',todo',D',by omega,by go_num,rfl,Hd (HS2.out.later HB8.out),Hd (HX2.out.below HB8.out HX2.out.lt),hobx,Hd HFN.out.symm,HZ2,hn2,by omega,by omega,HZS2,Hd (HU2.out.chg (Chg.of_below (X:=fun _=>False) HB8.out) (fun _ _=>id))⟩
        case measure=>simp[intOf];omega
       | true=>
        have HY:=Hd hy;obtain⟨ci,hZi2⟩:=HZ2.out;obtain⟨t,htt⟩:∃t,(T.getD rk [])[0]?=some t:=⟨_,eG (by rw[HTL.out rk (by omega),hright];simp)⟩
        have htA:Gz.tailAt T rk 0=t:=by unfold Gz.tailAt;rw[dG,htt];rfl
        obtain⟨bt,ot,ct,xt,htlv,⟨hbtA,hbt⟩,hct,htl⟩:=(HTX.out _ HB7.out).at_ (k:=rk) (by omega);subst htlv;obtain⟨b2,o2,c2,ht,hxt,⟨hb2A,hb2⟩,ht0,ht1,htn,hts⟩:=htl.at_ htt;subst hxt;rw[Nat.zero_mul,Nat.add_zero]at ht0 ht1;have hbtA:bt<w.heap.size:=hbtA;have hb2A:b2<w.heap.size:=hb2A;have htw:ht.wb<w.heap.size:=hts.2.2;have HTW:=Hd htw;have HTS:=Hd hts.1;have hth:ht.h<w.heap.size:=hts.2.1;have HTH:=Hd hth;have htp:(0:Int)<((T.getD rk []).length:Int):=by have:=HTL.out rk (by omega);rw[hright,List.length_cons]at this;omega
        obtain⟨tln,htln⟩:∃n,(T.getD rk []).length=n:=⟨_,rfl⟩
        rw[htln]at hct htp;have htp2:0<tln:=by omega
        have htp3:¬(tln=0):=by omega
        have hS3:∀v v',Below w7.heap.size w7 v→∀X:Nat→Prop,Chg X v v'→(∀q,X q→w.heap.size≤q∧q≠xb)→v'.cell? ⟨xb,0,none⟩=some (.int .i64 (cx.s:Nat))∧v'.cell? ⟨xb,1,none⟩=some (.pointer (some ⟨hx.h,0,none⟩))∧v'.cell? ⟨xb,2,none⟩=some (.bool cx.self)∧v'.cell? ⟨mb,6,none⟩=some (.slice (some ⟨bt,ot,none⟩) (g.R.length+1) ct)∧v'.cell? ⟨bt,ot+rk,none⟩=some (.slice (some ⟨b2,o2,none⟩) tln c2)∧v'.cell? ⟨b2,o2,none⟩=some (.pointer (some ⟨ht.h,0,none⟩))∧v'.cell? ⟨b2,o2+1,none⟩=some (.bool t.2):=fun v v' hv X hc hX=>by
          have hv7:=hv.size;have hw7:=HB7.out.size;have hxl:=HX2.out.lt;have hbx:=HX2.out.below hv hxl;have old:∀(b j:Nat) (u:Value),b<w.heap.size→w7.cell? ⟨b,j,none⟩=some u→v'.cell? ⟨b,j,none⟩=some u:=fun b j u hb hu=>(hc.cell (by omega) (fun e=>by have:=(hX b e).1;omega) j).trans ((hv.cell (p:=⟨b,j,none⟩) (by show b<w7.heap.size;omega)).trans hu)
          have hb3:=hc.blk hbx (fun e=>(hX xb e).2 rfl);exact⟨Blk.cell hb3 0,Blk.cell hb3 1,Blk.cell hb3 2,old mb 6 _ hmb y6,old bt _ _ hbtA hct,old b2 _ _ hb2A ht0,old b2 _ _ hb2A ht1⟩
        have HS3:=Hd hS3;have hrl5:(rk:Int)<((g.R.length+1:Nat):Int):=by omega
        clear hS3 htl hts hct ht0 ht1 hrl2 htln;have hy100:y≤100000:=by omega
        cases hj:posC (Z'.map (·.2)) y with
        | some j=>
          have hjl:j<Z'.length:=by unfold posC at hj;have:=(List.findIdx?_eq_some_iff_findIdx_eq.1 hj).1;simpa using this
          obtain⟨z,hz⟩:∃z,Z'[j]?=some z:=⟨_,eG hjl⟩
          have hro:=HFO.out.trans (comeRule_old hright hy hj (by rw[pG,hZi2];rfl) (by rw[pG,hz];rfl));rw[htA]at hro;have HHD:=Hd (fun v (hv:Below w7.heap.size w7 v)=>(HS2.out.later hv).hand (mp:=.pointer (some ⟨mb,0,none⟩)) (sx:=cx.s) (xs:=cx.self) (emp:=t.2) hZi2 hz (HTS.out.later hv) htn htw);have hbs:handC cx.self ci.set z.2 (i==j) (t.1,t.2)=handC cx.self ci.set z.2 (i==j) t:=rfl;simp only[hbs]at HHD;have hzs:(handC cx.self ci.set z.2 (i==j) t).1.s=z.2.s:=by
           unfold handC;split
           ·rfl
           ·split
            · rfl
            · split<;>rfl
          generalize hrr:handC cx.self ci.set z.2 (i==j) t=rr at *;obtain⟨rc,rb⟩:=rr;simp only at hro HHD hzs;have HRO:=Hd hro;have HJ:=Hd hj;have hz3:=HS2.out.new z (mG hz);have hxbl:=HX2.out.lt;have hnz:z.1.wb≠xb:=fun e=>Blk.ne_ HX2.out (HS2.out.set_at hz).1.words (by decide) e.symm
          have HZX:=Hd (And.intro hz3.2 (And.intro hnz hobx));have hobw:=HS2.out.blk;obtain⟨_,_,hobw⟩:=hobw;have HOB:=Hd hobw;have hjz:(j:Int)<(Z'.length:Int):=by omega
          have HZE:Hid ((Z'.set j (z.1,rc))[i]?=some (hx,if i=j then rc else ci)):=Hd (by
           by_cases hij:i=j
           ·subst hij
            rw[hZi2]at hz;cases hz
            rw[tG hjl,if_pos rfl]
           ·rw[uG (fun e=>hij e.symm),hZi2,if_neg hij])
          have HZM:Hid ((Z'.set j (z.1,rc)).map (·.2)=(Z'.map (·.2)).set j rc):=Hd (by rw[List.map_set]);have HZSS:Hid (∀y∈Z'.set j (z.1,rc),y.2.s≤g.top):=Hd (fun y hy=>by
           rcases List.mem_or_eq_of_mem_set hy with h1|rfl
           ·exact HZS2.out y h1
           ·simp only;rw[hzs];exact HZS2.out z (mG hz))
          clear hright hy hj hro htt hz hZi2 hz3 hxbl hnz hobw hbs hrr hzs;cases rb with
          | false=>
           go_upto_region 12 with fail
           go_region_held3 (fun v=>v.cell? ⟨mb,0,none⟩=some (.slice AT g.nt cT)∧v.cell? ⟨mb,1,none⟩=some (.slice AN g.nn cN)∧v.cell? ⟨mb,2,none⟩=some (.slice AR g.R.length cR)∧v.cell? ⟨mb,3,none⟩=some (.int .i64 g.s)∧v.cell? ⟨bq,oq,none⟩=some (.int .i64 y))
            (first|exact HSS.out _ HD0.out|exact HSS.out _ HB8.out)
            (first|(
                    go_at_call 40;refine HNY.out.mono ?_;rintro e w8 ⟨rfl,hb8⟩
                    rw[HY.out];have HB8:=Hd (HD0.out.trans hb8);have HS8:=Hd (HS2.out.later HB8.out);have hlook:=po_look HS8.out.map HS8.out.at_ hy100;rw[HJ.out]at hlook;simp only[Option.getD_some,Option.isSome_some]at hlook;clear hb8))
           go_upto_region 18 with fail
           go_region_held3 (fun v'=>v'.cell? ⟨xb,0,none⟩=some (.int .i64 (cx.s:Nat))∧v'.cell? ⟨xb,1,none⟩=some (.pointer (some ⟨hx.h,0,none⟩))∧v'.cell? ⟨xb,2,none⟩=some (.bool cx.self)∧v'.cell? ⟨mb,6,none⟩=some (.slice (some ⟨bt,ot,none⟩) (g.R.length+1) ct)∧v'.cell? ⟨bt,ot+rk,none⟩=some (.slice (some ⟨b2,o2,none⟩) tln c2)∧v'.cell? ⟨b2,o2,none⟩=some (.pointer (some ⟨ht.h,0,none⟩))∧v'.cell? ⟨b2,o2+1,none⟩=some (.bool t.2))
            (first|exact HS3.out w8.drew w8.drew HB8.out.drew (fun _=>False) (Chg.refl _ _) (fun _ h=>h.elim)|exact HS3.out w8.drew w9 HB8.out.drew _ HC9.out HX9.out)
            (first|(
                    go_at_call 199;refine(HHD.out _ HB8.out.drew).mono ?_;rintro e w9 ⟨rfl,hs9,hc9⟩
                    have HS9:=Hd hs9;have HC9:=Hd hc9;have HX9:Hid (∀q,(q=ob'∨q=z.1.wb)→w.heap.size≤q∧q≠xb):=Hd (fun q hq=>by
                     have h1:=HZX.out;have h2:=HOB.out;rcases hq with rfl|rfl
                     ·exact⟨h2,h1.2.2⟩
                     ·exact⟨h1.1,h1.2.1⟩)
                    have HXB9:=Hd (hc9.blk (HX2.out.below HB8.out.drew HX2.out.lt) (fun e=>(HX9.out xb e).2 rfl));have HU9:Hid (NumsA (Old w.heap.size) w9 (.slice (some ⟨bk,ok,none⟩) nr ck) rules):=Hd ((HU2.out.chg (Chg.of_below (X:=fun _=>False) HB8.out.drew) (fun _ _=>id)).chg hc9 (fun b hb e=>by have:=(HX9.out b e).1;unfold Old at hb;omega));clear hs9 hc9))
           all_goals go_wp2_with fail
           all_goals go_roundw
           all_goals first
            | (simp[intOf];omega)
            | exact⟨k+1,nD',ob',oc',Z'.set j (z.1,rc),todo',D',by omega,by go_num,by rw[List.length_set],HS9,HXB9,hobx,Hd (by rw[HRO.out,HZM.out];rfl),Hd ⟨_,HZE.out⟩,by rw[List.length_set];omega,by rw[List.length_set];omega,by omega,HZSS,HU9⟩
          | true=>
           go_upto_region 12 with fail
           go_region_held3 (fun v=>v.cell? ⟨mb,0,none⟩=some (.slice AT g.nt cT)∧v.cell? ⟨mb,1,none⟩=some (.slice AN g.nn cN)∧v.cell? ⟨mb,2,none⟩=some (.slice AR g.R.length cR)∧v.cell? ⟨mb,3,none⟩=some (.int .i64 g.s)∧v.cell? ⟨bq,oq,none⟩=some (.int .i64 y))
            (first|exact HSS.out _ HD0.out|exact HSS.out _ HB8.out)
            (first|(
                    go_at_call 40;refine HNY.out.mono ?_;rintro e w8 ⟨rfl,hb8⟩
                    rw[HY.out];have HB8:=Hd (HD0.out.trans hb8);have HS8:=Hd (HS2.out.later HB8.out);have hlook:=po_look HS8.out.map HS8.out.at_ hy100;rw[HJ.out]at hlook;simp only[Option.getD_some,Option.isSome_some]at hlook;clear hb8))
           go_upto_region 18 with fail
           obtain⟨s0_,s1_,s2_,s3_,s4_,s5_,s6_⟩:=HS3.out w8 w8 HB8.out (fun _=>False) (Chg.refl _ _) (fun _ h=>h.elim);first|(go_region_law (first|(
                         go_simp;go_at_call 199;refine(HHD.out _ HB8.out.drew).mono ?_;rintro e w9 ⟨rfl,hs9,hc9⟩;have HS9:=Hd hs9;have HC9:=Hd hc9;have HX9:Hid (∀q,(q=ob'∨q=z.1.wb)→w.heap.size≤q∧q≠xb):=Hd (fun q hq=>by
                          have h1:=HZX.out;have h2:=HOB.out;rcases hq with rfl|rfl
                          ·exact⟨h2,h1.2.2⟩
                          ·exact⟨h1.1,h1.2.1⟩)
                         have HXB9:=Hd (hc9.blk (HX2.out.below HB8.out.drew HX2.out.lt) (fun e=>(HX9.out xb e).2 rfl));have HU9:Hid (NumsA (Old w.heap.size) w9 (.slice (some ⟨bk,ok,none⟩) nr ck) rules):=Hd ((HU2.out.chg (Chg.of_below (X:=fun _=>False) HB8.out.drew) (fun _ _=>id)).chg hc9 (fun b hb e=>by have:=(HX9.out b e).1;unfold Old at hb;omega));clear hs9 hc9)))|fail
           all_goals go_wp2_with (
                        at_builtin;refine wpList_appQ ElIntQ (.tmp 114) (.tmp 116) rfl rfl (base:=w.heap.size) (n:=todo'.length) (m:=1) (N:=todo'.length+1) (xs:=todo'.map NatV) (news:=[.int .i64 j]) rfl rfl (HS9.out.later (below_alloc w9 (.cells #[.int .i64 j] 3))).que (SrcOK.blk (c:=1) (cs:=[.int .i64 j]) (Blk.new w9 3 _) rfl (by simp[Value.oneCell'])) (by omega) rfl (by unfold maxLen;omega) (by omega) (HS9.out.later (below_alloc w9 (.cells #[.int .i64 j] 3))).below.size ?_
                        intro A13 c13 w13 r1 r2 r3;have HK13:=Hd r2;have HS13:=Hd ((HS9.out.later (below_alloc w9 (.cells #[.int .i64 j] 3))).doing (i:=j) (by rw[List.length_set];omega) r1 r2);have HXB13:=Hd (r2.blk (HXB9.out.alloc (.cells #[.int .i64 j] 3)) (.inr (by decide)));have HU13:=Hd ((HU9.out.chg (Chg.of_below (X:=fun _=>False) (below_alloc w9 (.cells #[.int .i64 j] 3))) (fun _ _=>id)).chg (X:=fun b=>w.heap.size≤b) ⟨r2.os,r2.tape,r2.output,r2.size,fun q hq hx=>r2.block q hq (.inl (by omega))⟩ (fun b hb e=>by unfold Old at hb;omega));clear r1 r2 r3)
           all_goals go_roundw
           all_goals first
            | (simp[intOf];omega)
            | exact⟨k+1,nD',ob',oc',Z'.set j (z.1,rc),todo'++[j],D',by omega,by go_num,by rw[List.length_set],Hd (by simpa using HS13.out),HXB13,hobx,Hd (by rw[HRO.out,HZM.out];rfl),Hd ⟨_,HZE.out⟩,by rw[List.length_set];omega,by rw[List.length_set];omega,by simp;omega,HZSS,HU13⟩
        | none=>
          have hro:=HFO.out.trans (comeRule_new hright hy hj (by rw[pG,hZi2];rfl));rw[htA,lM]at hro;have HJ:=Hd hj;have hil:i<Z'.length:=(sG.1 hZi2).1;obtain⟨rr,hrr⟩:∃rr,handC cx.self ci.set ⟨y,0,false⟩ (i==Z'.length) t=rr:=⟨_,rfl⟩
          rw[hrr]at hro;have HRR:=Hd hrr;have HRO:=Hd hro;have HZIX:=Hd hZi2;have hzl5:Z'.length≤100000:=by omega
          have hnd5:nD'≤10000000:=by omega
          obtain⟨_,_,hobw⟩:=HS2.out.blk;have hlo:=HS2.out.lo;have hxw:w.heap.size≤xb:=by rw[←HXX.out];exact HS.out.below.size
          have hmx:mm≠xb:=fun e=>(map_ne HS2.out.map HX2.out) e.symm
          have HX12:Hid (∀q,(q=mm∨q=ob')→w.heap.size≤q∧q≠xb):=Hd (fun q hq=>by
           rcases hq with rfl|rfl
           ·exact⟨hlo,hmx⟩
           ·exact⟨hobw,hobx⟩)
          have hrs:rr.1.s=y:=by
           rw[←hrr];unfold handC;split
           ·rfl
           ·split
            · rfl
            · split<;>rfl
          have HRS:=Hd hrs;have hil2:(i:Int)<(Z'.length:Int)+1:=by omega
          have hil3:(i:Int)<((Z'.length+1:Nat):Int):=by omega
          have hjl2:(Z'.length:Int)<(Z'.length:Int)+1:=by omega
          have hjl3:(Z'.length:Int)<((Z'.length+1:Nat):Int):=by omega
          have HLOX:=Hd (show w.heap.size≤ob'∧w.heap.size≤mm∧w.heap.size≤xb from ⟨hobw,hlo,hxw⟩);have hbqo:bq<w.heap.size:=hbqA;have HBQ:=Hd hbqo;clear hright hy hj hro hrr htt hZi2 hobw hlo hxw hbqo hmx hrs;go_upto_region 12 with fail
          go_region_held3 (fun v=>v.cell? ⟨mb,0,none⟩=some (.slice AT g.nt cT)∧v.cell? ⟨mb,1,none⟩=some (.slice AN g.nn cN)∧v.cell? ⟨mb,2,none⟩=some (.slice AR g.R.length cR)∧v.cell? ⟨mb,3,none⟩=some (.int .i64 g.s)∧v.cell? ⟨bq,oq,none⟩=some (.int .i64 y))
           (first|exact HSS.out _ HD0.out|exact HSS.out _ HB8.out)
           (first|(
                   go_at_call 40;refine HNY.out.mono ?_;rintro e w8 ⟨rfl,hb8⟩
                   rw[HY.out];have HB8:=Hd (HD0.out.trans hb8);have HS8:=Hd (HS2.out.later HB8.out);have hlook:=po_look HS8.out.map HS8.out.at_ hy100;rw[HJ.out]at hlook;simp only[Option.getD_none,Option.isSome_none]at hlook;obtain⟨w9,hput,hm9,hg9⟩:=po_put HS8.out.map hnd5 hy100 (c:=Z'.length) hzl5;have HM9:=Hd hm9;have HG9:=Hd hg9;have HC9:Hid (Chg (·=mm) w8 w9):=Hd (Chg.of_map hg9);have hbq8:bq<w8.heap.size:=ltL hbq HB8.out.size;have hcq9:w9.cell? ⟨bq,oq,none⟩=some (.int .i64 y):=(HC9.out.cell hbq8 (fun e=>by have:=HLOX.out.2.1;have:=HBQ.out;omega) oq).trans ((HB8.out.cell (p:=⟨bq,oq,none⟩) hbq).trans hcq)
                   have HB9:Hid (Below w.heap.size w w9):=Hd (HS8.out.below.trans (HC9.out.below HS8.out.below.size (fun q hq e=>by have:=HLOX.out.2.1;omega)));have HLX:=Hd (HLS.out w9.drew HB9.out.drew);clear hm9 hg9 hb8))
          go_upto_region 17 with fail
          have HROW9:Hid (w9.ownsRow w.heap.size 242 3 (.slice (some ⟨ob',0,none⟩) Z'.length oc') Z'.length (Z'.flatMap comC)):=Hd (HC9.out.own HS8.out.row (fun b hb=>map_neo HS8.out.map HS8.out.row b hb));have hbq9:bq<w9.heap.size:=ltL hbq8 HC9.out.size;go_region_law (first
           | (
             go_simp;go_at_call 152;refine HLX.out.mono ?_;rintro e w10 ⟨t0,rfl,hn0,hh0,hw0,hs0,hb10⟩;have HB10:Hid (Below w9.heap.size w9 w10):=Hd (((Below.refl _ w9).drew).trans hb10);have hcq10:w10.cell? ⟨bq,oq,none⟩=some (.int .i64 y):=(HB10.out.cell (p:=⟨bq,oq,none⟩) hbq9).trans hcq9;have HT0:Hid (t0.n=g.nt+1∧(w9.heap.size≤t0.h∧w9.heap.size≤t0.wb)∧SetAt w10 t0 0):=Hd ⟨hn0,⟨hh0,hw0⟩,hs0⟩;have HA10:=Hd (below_alloc1 w10 (.cells #[.int .i64 y,.pointer (some ⟨t0.h,0,none⟩),.bool false] 242));unfold SetH.v;clear hn0 hh0 hw0 hs0 hb10)
           | (
             refine step_app ElCome (.tmp 86) (.tmp 93) ?_ ?_ (base:=w.heap.size) (n:=Z'.length) (m:=1) (N:=Z'.length+1) (v:=.slice (some ⟨ob',0,none⟩) Z'.length oc') (src:=.slice (some ⟨w10.heap.size,0,none⟩) 1 1) (xs:=Z'.flatMap comC) (news:=comC (t0,⟨y,0,false⟩)) ?_ ?_ ?_ ?_ ?_ ?_ ?_ ?_ ?_
             · rfl
             · rfl
             · rfl
             · rfl
             · exact own_below (own_below HROW9.out HB10.out) HA10.out
             · exact SrcOK.blk (c:=1) (cs:=comC (t0,⟨y,0,false⟩)) (Blk.new w10 242 _) rfl (fun u hu=>by unfold comC at hu;simp at hu;rcases hu with rfl|rfl|rfl<;>rfl)
             · rfl
             · unfold maxLen;omega
             · omega
             · have h1:=HB9.out.size;have h2:=HB10.out.size;simp;omega
             intro A12 c12 w12 r1 r2 r3;have HMO:=HS8.out.more HJ.out HM9.out HG9.out (HB10.out.trans (HA10.out.mono HB10.out.size)) (HT0.out.2.2.later HA10.out) HT0.out.1 HT0.out.2.1 r1 r2;obtain⟨ob2,hA12,HS12⟩:=HMO;subst hA12;have HS12:=Hd HS12;have hob2:ob2≠xb:=by
               rcases r3.2 with e|e
               · have e2:some ob2=some ob':=e
                 cases e2;exact hobx
               · have e2:some ob2=some (w10.alloc (.cells #[.int .i64 y,.pointer (some ⟨t0.h,0,none⟩),.bool false] 242)).heap.size:=e
                 have h1:=HX2.out.lt;have h2:=HB8.out.size;have h3:=HC9.out.size;have h4:=HB10.out.size;have h5:=HA10.out.size;have h6:=Option.some.inj e2;omega
             have HCH:Hid (Chg (fun q=>q=mm∨q=ob') w8 w12):=Hd (((HC9.out.mono fun q hq=>.inl hq).next (Chg.of_below (HB10.out.trans (HA10.out.mono HB10.out.size)))).next ((Chg.of_grown r3.1).mono fun q hq=>.inr (by cases hq;rfl)));clear r1 r2 r3))
          all_goals go_upto_region 18 with fail
          all_goals
           obtain⟨s0_,s1_,s2_,s3_,s4_,s5_,s6_⟩:=HS3.out w8 w12 HB8.out _ HCH.out HX12.out;have HXB12:=Hd (HCH.out.blk (HX2.out.below HB8.out HX2.out.lt) (fun e=>(HX12.out xb e).2 rfl));have HU12:Hid (NumsA (Old w.heap.size) w12 (.slice (some ⟨bk,ok,none⟩) nr ck) rules):=Hd ((HU2.out.chg (Chg.of_below (X:=fun _=>False) HB8.out) (fun _ _=>id)).chg HCH.out (fun b hb e=>by have:=(HX12.out b e).1;unfold Old at hb;omega));have HTS12:Hid (SetAt w12 ht t.1):=Hd ((HTS.out.later HB8.out).chg HCH.out (fun e=>by have h1:=(HX12.out _ e).1;have h2:=HTH.out;omega) (fun e=>by have h1:=(HX12.out _ e).1;have h2:=HTW.out;omega))
           obtain⟨Z9,hZ9⟩:∃Z9,Z'++[(t0,⟨y,0,false⟩)]=Z9:=⟨_,rfl⟩
           have hZl:Z9.length=Z'.length+1:=by rw[←hZ9];simp
           have hZi9:Z9[i]?=some (hx,ci):=by rw[←hZ9,gL hil];exact HZIX.out
           have hZj9:Z9[Z'.length]?=some (t0,⟨y,0,false⟩):=by rw[←hZ9];simp
           have hZm9:(Z9.set Z'.length (t0,rr.1)).map (fun z:SetH×Come=>z.2)=(Z'.map (fun z:SetH×Come=>z.2)++[(⟨y,0,false⟩:Come)]).set Z'.length rr.1:=by rw[←hZ9,List.map_set,mpA];rfl
           have hZs9:∀z∈Z9.set Z'.length (t0,rr.1),z.2.s≤g.top:=fun z hz=>by
            rcases List.mem_or_eq_of_mem_set hz with h1|rfl
            · rw[←hZ9]at h1
              rcases mA.1 h1 with h2|h2
              · exact HZS2.out z h2
              · rw[mS.1 h2];exact hyt
            · simp only;rw[HRS.out];exact hyt
           have hZe9:(Z9.set Z'.length (t0,rr.1))[i]?=some (hx,ci):=by rw[uG (by omega),hZi9]
           have HS12':=HS12.out;rw[hZ9]at HS12';have HHD:=(HS12'.later (((Below.refl _ w12).drew))).hand (mp:=.pointer (some ⟨mb,0,none⟩)) (sx:=cx.s) (xs:=cx.self) (emp:=t.2) hZi9 hZj9 (HTS12.out.later ((Below.refl _ w12).drew)) htn htw;simp only[show handC cx.self ci.set (⟨y,0,false⟩:Come) (i==Z'.length) (t.1,t.2)=rr from HRR.out]at HHD;have HHD:=Hd HHD;have HZM9:=Hd hZm9;have HZS9:=Hd hZs9;have HZE9:=Hd hZe9;have HOB2:Hid (w.heap.size≤ob2):=Hd (by obtain⟨_,_,hh⟩:=HS12'.blk;exact hh);have HT9:Hid (w.heap.size≤t0.wb∧t0.wb≠xb):=Hd (by have h0:=HS12'.new _ (mG hZj9);exact⟨h0.2,fun e=>Blk.ne_ HXB12.out (HS12'.set_at hZj9).1.words (by decide) e.symm⟩)
           have HX13:Hid (∀q,(q=ob2∨q=t0.wb)→w.heap.size≤q∧q≠xb):=Hd (fun q hq=>by
            rcases hq with rfl|rfl
            · exact⟨HOB2.out,hob2⟩
            · exact HT9.out)
           clear hZ9 hZi9 hZj9 hZm9 hZs9 hZe9 HS12';have HZL:=Hd hZl;clear hZl;obtain⟨rc,rb⟩:=rr;simp only at HHD
          all_goals cases rb
          all_goals
           first|(go_region_law (first|(
                         go_simp;go_at_call 199;refine HHD.out.mono ?_;rintro e w13 ⟨rfl,hs13,hc13⟩;have HS9:=Hd hs13;have HXB9:=Hd (hc13.blk (HXB12.out.below ((Below.refl _ w12).drew) HXB12.out.lt) (fun e=>(HX13.out xb e).2 rfl));have HU9:Hid (NumsA (Old w.heap.size) w13 (.slice (some ⟨bk,ok,none⟩) nr ck) rules):=Hd ((HU12.out.chg (Chg.of_below (X:=fun _=>False) ((Below.refl _ w12).drew)) (fun _ _=>id)).chg hc13 (fun b hb e=>by have:=(HX13.out b e).1;unfold Old at hb;omega));clear hs13 hc13)))|fail
          all_goals go_wp2_with (
                       at_builtin;refine wpList_appQ ElIntQ (.tmp 114) (.tmp 116) rfl rfl (base:=w.heap.size) (n:=todo'.length) (m:=1) (N:=todo'.length+1) (xs:=todo'.map NatV) (news:=[.int .i64 Z'.length]) rfl rfl (HS9.out.later (below_alloc w13 (.cells #[.int .i64 Z'.length] 3))).que (SrcOK.blk (c:=1) (cs:=[.int .i64 Z'.length]) (Blk.new w13 3 _) rfl (by simp[Value.oneCell'])) (by omega) rfl (by unfold maxLen;omega) (by omega) (HS9.out.later (below_alloc w13 (.cells #[.int .i64 Z'.length] 3))).below.size ?_
                       intro A13 c13 w14 r1 r2 r3;have HS13:=Hd ((HS9.out.later (below_alloc w13 (.cells #[.int .i64 Z'.length] 3))).doing (i:=Z'.length) (by rw[List.length_set,HZL.out];omega) r1 r2);have HXB13:=Hd (r2.blk (HXB9.out.alloc (.cells #[.int .i64 Z'.length] 3)) (.inr (by decide)));have HU13:=Hd ((HU9.out.chg (Chg.of_below (X:=fun _=>False) (below_alloc w13 (.cells #[.int .i64 Z'.length] 3))) (fun _ _=>id)).chg (X:=fun b=>w.heap.size≤b) ⟨r2.os,r2.tape,r2.output,r2.size,fun q hq hx=>r2.block q hq (.inl (by omega))⟩ (fun b hb e=>by unfold Old at hb;omega));clear r1 r2 r3)
          all_goals go_roundw
          all_goals first
           | (simp[intOf];omega)
           | exact⟨k+1,nD'+1,ob2,c12,Z9.set Z'.length (t0,rc),todo'++[Z'.length],_,by omega,by go_num,by rw[List.length_set,HZL.out],Hd (by simpa using HS13.out),HXB13,hob2,Hd ((congrArg (fun l=>(l,todo'++[Z'.length])) HZM9.out).trans HRO.out.symm),Hd ⟨_,HZE9.out⟩,by rw[List.length_set,HZL.out];omega,by rw[List.length_set,HZL.out];omega,by simp;omega,HZS9,HU13⟩
     ·obtain rfl:k=nr:=by omega
      have HEN:Hid (g.comeLoop T n (Z'.map (·.2)) todo'=some CC):=Hd (by have h:=HCN.out;have h2:=HE2.out;rw[tkL (by rw[HNR.out];omega)]at h2;rw[←h2]at h;exact h)
      go_wp2_with fail
      go_step3
      refine jump_goto ?_;exact⟨n,Nat.lt_succ_self n,mm,nD',ob',oc',_,Z',todo',D',HS2,HEN,hn2,by omega,HZS2,rfl⟩
end Go.Proofs.YthaacmablcpdfaaGreatDoor
