/- The automaton. -/
import Derived.Test.YthaacmablcpdfaaGreatDoorZaz
import Derived.Test.YthaacmablcpdfaaGreatDoorNm
namespace Go.Proofs.YthaacmablcpdfaaGreatDoor
open Go.RowKit
set_option linter.unusedVariables false
set_option maxRecDepth 100000
theorem stateL_start(l:List It):stateL [] l=(0,[l]):=by simp[stateL]
theorem stateL_len(L:List (List It))(l:List It):L.length≤(stateL L l).2.length∧(stateL L l).2.length≤L.length+1∧(stateL L l).1≤L.length:=by
 unfold stateL;split
 ·rename_i h
  exact⟨leR _,by simp,Nat.le_of_lt (List.idxOf_lt_length_of_mem h)⟩
 ·simp
theorem stateL_ok{P:It→Prop}{L:List (List It)}{l:List It}(h:∀m∈L,∀x∈m,P x)(hl:∀x∈l,P x):∀m∈(stateL L l).2,∀x∈m,P x:=by
 unfold stateL;split
 ·exact h
 ·intro m hm
  rcases mA.1 hm with h1|h1
  ·exact h m h1
  ·rw[mS.1 h1];exact hl
theorem own_someQ{w:World}{B n:Nat}{e:TypeId}{s:Nat}{v:Value}{xs:List Value}(h:w.ownsRow B e s v n xs)(hn:0<n):∃g c,v=.slice (some ⟨g,0,none⟩) n c:=by
 rcases own_form h with⟨_,h0⟩|⟨b,c,h1,_⟩
 ·omega
 ·exact⟨b,c,h1⟩
theorem rising_len:∀(t:List It) (a b:Nat),Rising t a b→t.length≤b-a
 | [],a,b,h=>zeL _
 | x::t,a,b,h=>by obtain⟨h1,h2⟩:=List.pairwise_cons.1 h.up;have hx:=h.btw x (by simp);have:=rising_len t (x.1+1) b ⟨h2,fun y hy=>by have:=h1 y hy;have:=h.btw y (by simp[hy]);omega⟩;rw[List.length_cons];omega
theorem trans_src(x:It)(y:World):SrcOK (y.alloc (.cells #[.int .i64 x.1,.int .i64 x.2] 127)) (.slice (some ⟨y.heap.size,0,none⟩) 1 1) 1 2 (itC x):=
 SrcOK.blk (c:=1) (cs:=itC x) (Blk.new y 127 _) rfl (fun u hu=>by unfold itC at hu;simp at hu;rcases hu with rfl|rfl<;>rfl)
structure Ini(w W:World)(bb mb tb gb:Nat)(v:Value):Prop where
 below:Below w.heap.size w W
 blk:Blk W bb 179 (v.cells++#[.slice none 0 0,.slice none 0 0,.map (some mb),.map (some tb)])
 pm:PMap W mb 0 (.map [])
 tm:TMap W tb 0 (.map [])
 gram:Blk W gb 32 v.cells
 lo:w.heap.size≤bb∧w.heap.size≤mb∧w.heap.size≤tb∧mb≠tb
theorem Ini.make{w w1:World}{v:Value}{gb:Nat}(hb:Below w.heap.size w w1)(hg:Blk w1 gb 32 v.cells):Ini w (((w1.alloc (.map #[] 0)).alloc (.map #[] 0)).alloc (.cells (v.cells++#[.slice none 0 0,.slice none 0 0,.map (some w1.heap.size),.map (some (w1.heap.size+1))]) 179)) (w1.heap.size+1+1) w1.heap.size (w1.heap.size+1) gb v:=by
 have hs:=hb.size;refine⟨((hb.alloc hs _).alloc (by simp;omega) _).alloc (by simp;omega) _,Blk.newAt (by simp),?_,?_,((hg.alloc _).alloc _).alloc _,by omega⟩
 ·exact((World.ownsMap_made (H:=Unit) w1 Tryz.prog 9 (plainElem Tryz.prog 3)).alloc _).alloc _
 ·have:=World.ownsMap_made (H:=Unit) (w1.alloc (.map #[] 0)) Tryz.prog 183 (plainElem Tryz.prog 3)
  rw[show (w1.alloc (.map #[] 0)).heap.size=w1.heap.size+1 by simp]at this;exact this.alloc _
theorem Ini.bst{w W w2 w3:World}{bb mb tb gb gr N:Nat}{v:Value}{g:Gz}{R:List (Value×List It)}{bg:List (List It)}(h:Ini w W bb mb tb gb v)(hg:GN w v g)(hN:N=g.top+1)(hp:Prp w W w2 bb gr N v (.slice none 0 0) mb tb R)(hR:R.map (·.2)=bg)(hb:Below w2.heap.size w2 w3):Bst w w3 bb mb tb gr N v (.slice none 0 0) g bg [] [] (.map []) 0 (.map []) (edgeOf []):=by
 have hpb:=hp.below h.below h.lo.1;have hp3:=hp.later hb;have h3:=hpb.trans (hb.mono hpb.size);have hbm:=map_ne h.pm h.blk;have hbt:=map_ne h.tm h.blk;have hm:∀{b:Nat} {k:TypeId} {n:Nat} {D:DataW Unit},W.ownsMap Tryz.prog k (plainElem Tryz.prog 3) b n D→b≠bb→w3.ownsMap Tryz.prog k (plainElem Tryz.prog 3) b n D:=fun hh hne=>(Chg.of_below (X:=fun _=>False) hb).map (hp.chg.map hh hne) id
 refine⟨⟨hg,?_,⟨rfl,.inl ⟨rfl,rfl⟩⟩,rfl,(fun k x l hx=>by simp at hx),hm h.pm (Ne.symm hbm),AtD.start,(fun l hl=>by cases hl),⟨h.lo.1,h.lo.2.1⟩,h3,by simp,(fun x hx=>by cases hx)⟩,⟨R,?_,hR⟩,hm h.tm (Ne.symm hbt),?_,h.lo.2.2.2,h.lo.2.2.1⟩
 ·have:=hp3.blk
  subst hN;exact this
 ·have hf:=hp3.fam
  subst hN;exact⟨own_base hf.row h.below.size,fun k x hx=>own_base (hf.own k x hx) h.below.size,hf.apart⟩
 ·exact ToD.start.congr fun i s=>(edgeOf_nil i s).symm
structure AutO(B:Nat)(w:World)(v:Value)(V:List (Value×Value))(L E:List (List It)):Prop where
 rows:w.ownsRow B 71 2 v V.length (V.flatMap stC)
 len:L.length=V.length∧E.length=V.length
 items:∀(k:Nat) (x:Value×Value) (l:List It),V[k]?=some x→L[k]?=some l→w.ownsRow B 194 2 x.1 l.length (l.flatMap itC)
 trans:∀(k:Nat) (x:Value×Value) (l:List It),V[k]?=some x→E[k]?=some l→w.ownsRow B 127 2 x.2 l.length (l.flatMap itC)
 aut:Aut w v V L E
theorem Trs.autO{w0 wr:World}{bb tb:Nat}{cs:Array Value}{sb sc n:Nat}{V:List (Value×Value)}{L T:List (List It)}{nT:Nat}{DT:DataW Unit}(h:Trs w0 wr bb tb cs sb sc n V L T nT DT)(ha:Aut wr (.slice (some ⟨sb,0,none⟩) n sc) V L T):AutO w0.heap.size wr (.slice (some ⟨sb,0,none⟩) n sc) V L T:=by have hlen:=h.len;obtain rfl:V.length=n:=hlen.1;exact⟨h.rows,hlen.2,h.items,h.trans,ha⟩
set_option maxHeartbeats 2000000 in
theorem build_own{w:World}{v:Value}{g:Gz}(hg:GN w v g){f:Nat}{Lf Ef:List (List It)}(ha:g.autoI f=some (Lf,Ef)) :
  Calls Tryz.prog 60 #[v] w fun e w'=>∃lv V,e=.returned (.tuple #[lv,.int .i64 0])∧AutO w.heap.size w' lv V Lf Ef∧Below w.heap.size w w':=by
 have hfit:=hg.fit;have hnr:=hfit.nr;have hnn:=hfit.nn;have hnt:=hfit.nt;obtain⟨bg,hbg,hbu⟩:∃bg,g.begsI=some bg∧g.buildI bg f 0 [[(g.R.length,0)]] []=some (Lf,Ef):=by
  unfold Gz.autoI at ha;cases hq:g.begsI with
  | none=>rw[hq]at ha;cases ha
  | some bg=>rw[hq]at ha;exact⟨bg,rfl,ha⟩
 have hbm:=begAll_mem _ _ hbg;obtain⟨N,hN⟩:∃N,N=g.top+1:=⟨_,rfl⟩
 have hN1:N≤1000:=by unfold Gz.top at hN;omega
 have htop:g.top≤1000:=by omega
 have HBM:=Hd hbm.2;have HBU:=Hd hbu;have HFIT:=Hd hfit;have HCK:=Hd (fun y (hy:Below w.heap.size w y)=>checkN_any (hg.later hy));have HT:=Hd (fun y (hy:Below w.heap.size w y)=>topN_any (hg.later hy));have HBE:=Hd (fun y (hy:Below w.heap.size w y)=>begin_any (hg.later hy));have HPR:=Hd (fun(y:World) (bb mb tb:Nat) (hy:Below w.heap.size w y) (h1:w.heap.size≤bb) (h2:Blk y bb 179 (v.cells++#[.slice none 0 0,.slice none 0 0,.map (some mb),.map (some tb)]))=>prepare_any hg hy h1 h2 hbg);have HG:=Hd hg;have hmp1:∀y:World,(Instr.makeMap 137 none).run Tryz.prog y=.ok (.map (some y.heap.size)) (y.alloc (.map #[] 0)):=fun y=>by kernel_rfl
 have hmp2:∀y:World,(Instr.makeMap 176 none).run Tryz.prog y=.ok (.map (some y.heap.size)) (y.alloc (.map #[] 0)):=fun y=>by kernel_rfl
 obtain⟨AT,cT,AN,cN,AR,cR,rfl,hc,hcR⟩:=hg.open_;have HGB:=Hd (Blk.new w 32 #[.slice AT g.nt cT,.slice AN g.nn cN,.slice AR g.R.length cR,.int .i64 g.s]);have HB0:=Hd (below_alloc w (.cells #[.slice AT g.nt cT,.slice AN g.nn cN,.slice AR g.R.length cR,.int .i64 g.s] 32));have HN:=Hd hN;clear hg ha hbg hbu hbm hc hfit hN hnn hnt;go_enter Tryz.func60,Tryz.ntmps60
 go_wp2_with (first
  | (
    go_at_call 35;refine(HCK.out _ HB0.out).mono ?_;rintro e w1 ⟨rfl,hb1⟩
    have HB1:=Hd (HB0.out.trans (hb1.mono HB0.out.size));have g1:=HGB.out.below hb1 HGB.out.lt;have HG1:=Hd g1;have y0:=Blk.cell g1 0;have y1:=Blk.cell g1 1;have y2:=Blk.cell g1 2;have y3:=Blk.cell g1 3;simp at y0 y1 y2 y3;have l1:=Blk.lt g1;have HIN:=Hd (Ini.make HB1.out (v:=.agg #[.slice AT g.nt cT,.slice AN g.nn cN,.slice AR g.R.length cR,.int .i64 g.s]) g1);clear g1 hb1)
  | (
    go_at_call 107;refine(HPR.out _ _ _ _ HIN.out.below HIN.out.lo.1 HIN.out.blk).mono ?_;rintro e w2 ⟨rfl,gr,R0,hp,hR⟩
    rw[←HN.out]at hp;have HP:=Hd hp;have HR0:=Hd hR;have g2:=hp.chg.blk HIN.out.gram (Ne.symm (Blk.ne_ HIN.out.blk HIN.out.gram (by decide)));have y0:=Blk.cell g2 0;have y1:=Blk.cell g2 1;have y2:=Blk.cell g2 2;have y3:=Blk.cell g2 3;simp[Value.cells]at y0 y1 y2 y3;have HB2:=Hd (hp.below HIN.out.below HIN.out.lo.1);have HG2:=Hd g2;clear hp hR g2)
  | (
    go_at_call 109;refine(HBE.out _ HB2.out).mono ?_;rintro e w3 ⟨A3,c3,rfl,hr3,hb3⟩
    have HS3:=Hd (Ini.bst HIN.out HG.out HN.out HP.out HR0.out hb3);have HR3:=Hd (own_base hr3 HB2.out.size);have HG3:=Hd (HG2.out.below hb3 HG2.out.lt);clear hr3 hb3)
  | (
    go_at_call 108;refine(state_any HS3.out.bld (l:=[(g.R.length,0)]) (by simpa using HR3.out) ⟨by simp,fun x hx=>by rw[mS.1 hx];constructor<;>simp only<;>omega⟩ (by simp)).mono ?_;rintro e w4 ⟨rfl,sv,V,D,hb4,hc4⟩
    have HS4:=Hd (HS3.out.stated hb4 hc4);have HG4:=Hd (hc4.blk HG3.out (by
      rintro(e|e|e)
      · exact Blk.ne_ HS3.out.bld.blk HG3.out (by decide) e.symm
      · exact map_ne HS3.out.bld.map HG3.out e
      · cases e))
    clear hb4 hc4))
 rw[stateL_start]at HS4;simp only at HS4;clear y0 y1 y2 y3 HIN HP HR0 HB2 HG2 HS3 HR3 HG3 HB1 HG1 HGB HB0 HCK HBE HPR hmp1 hmp2;generalize hbb:w1.heap.size+1+1=bb at *;generalize htb:w1.heap.size+1=tb at *;generalize hmb:w1.heap.size=mb at *;generalize hgb:w.heap.size=gb at HG4 ⊢;have HGBE:=Hd hgb;clear hbb htb hmb hgb l1;generalize hvv:(.agg #[.slice AT g.nt cT,.slice AN g.nn cN,.slice AR g.R.length cR,.int .i64 g.s]:Value)=vv at HS4;have HVV:=Hd hvv;clear hvv;go_loopg [6] f (fun fu ii wr=>∃(i:Nat) (sv:Value) (V:List (Value×Value)) (L:List (List It)) (D:DataW Unit) (nT:Nat) (DT:DataW Unit) (E:List (List It)),ii=.int .i64 i∧Hid (Bst w wr bb mb tb gr N vv sv g bg V L D nT DT (edgeOf E))∧Hid (g.buildI bg fu i L E=some (Lf,Ef))∧Hid (E.length=i∧i≤L.length∧L.length≤2000∧nT≤1000*i∧1≤L.length)∧Hid ((∀l∈L,∀x∈l,ItG g x)∧∀t∈E,Rising t 1 N)∧Hid (Blk wr gb 32 #[.slice AT g.nt cT,.slice AN g.nn cN,.slice AR g.R.length cR,.int .i64 g.s]))
 case atStart=>exact⟨0,_,_,_,_,0,_,[],rfl,HS4,HBU,Hd ⟨rfl,zeL _,by simp,zeL _,by simp⟩,Hd ⟨fun l hl x hx=>by rw[mS.1 hl]at hx;rw[mS.1 hx];exact⟨leR _,by simp⟩,fun t ht=>by cases ht⟩,HG4⟩
 case round=>
  rename World=>w9
  obtain⟨i,sv,V,L,D,nT,DT,E,rfl,HS,HBX,HLN,HOK,HGX⟩:=hrel;obtain⟨hEi,hiL,hL2,hnT,hL1⟩:=HLN.out;have hLV:=HS.out.bld.len;obtain⟨sb,sc,hsv⟩:=own_someQ HS.out.bld.rows (by omega);subst hsv;have c5:w9.cell? ⟨bb,5,none⟩=some (.slice (some ⟨sb,0,none⟩) V.length sc):=by have h:=HS.out.bld.blk.cell 5;rw[←HVV.out]at h;exact h
  cases gk with
  | zero=>have h:=HBX.out;simp[Gz.buildI]at h
  | succ fu=>
   by_cases hlt:i<V.length
   · obtain⟨K,hK⟩:∃K,L[i]?=some K:=⟨_,eG (by omega)⟩
     obtain⟨⟨iv,tv0⟩,hVi⟩:∃x,V[i]?=some x:=⟨_,eG hlt⟩
     have hb0:=HBX.out;unfold Gz.buildI at hb0;rw[hK]at hb0;simp only at hb0;have hK3:K.length≤300:=by
       split at hb0
       · cases hb0
       · omega
     rw[if_neg (by omega)]at hb0;have hR2:(Gz.rowsI (g.stepsI bg K) 0 L []).1.length≤2000:=by
       split at hb0
       · cases hb0
       · omega
     rw[if_neg (by omega)]at hb0;have HBN:=Hd hb0;have hKG:=HOK.out.1 K (mG hK);have hSO:=stepsI_ok HFIT.out HBM.out hKG hK3;obtain⟨s0,s1⟩:=st_cells HS.out.bld.rows hVi;have hown:=HS.out.bld.items i _ K hVi hK;obtain⟨Ai,ci,hiv⟩:=own_shape hown;simp only at hiv s0;subst hiv;have HSTP:=Hd (steps_any HS.out.bld.bg (HS.out.begs HBM.out) (Prs.own hown (by omega)) hK3 (fun x hx=>by have:=hKG x hx;unfold ItG at this;omega));have hi1:(i:Int)<(V.length:Int):=by omega
     have HSO:=Hd hSO;have HR2:=Hd hR2;have HLV:=Hd hLV;have HEI:=Hd hEi;have HNI:=Hd (show L.length≤2000∧nT≤1000*i∧i≤2000 by omega);generalize hkl:K.length=kl at *;generalize hrows:g.stepsI bg K=rows at *;have HKL:=Hd hkl;have hws:w9.heap.size≤w9.heap.size:=leR _;clear hb0 hSO hR2 hLV hEi hkl hrows s1 hown hVi hK hKG hL2 hnT hiL hL1 hws;go_wp2_with (
              go_at_call 110;refine HSTP.out.mono ?_;rintro e w5 ⟨gr5,c5',R5,rfl,hf5,hR5,hb5⟩
              rw[←HN.out]at hf5;have HF5:=Hd hf5;have HR5:=Hd hR5;have HS5:=Hd (HS.out.later hb5);have HG5:=Hd (HGX.out.below hb5 HGX.out.lt);rw[←HN.out];clear hf5 hR5 hb5)
     have HEM:Hid (Bst w w5 bb mb tb gr N vv (.slice (some ⟨sb,0,none⟩) V.length sc) g bg V L D nT DT (edgeOf (E++[[]]))):=Hd (HS5.out.congr fun a b=>(edgeOf_more E a b).symm);go_loopw [49] (fun jj wr=>∃(s:Nat) (sv':Value) (V':List (Value×Value)) (L':List (List It)) (D':DataW Unit) (nT':Nat) (DT':DataW Unit) (t:List It),s≤N∧jj=.int .i64 s∧Hid (Bst w wr bb mb tb gr N vv sv' g bg V' L' D' nT' DT' (edgeOf (E++[t])))∧Hid (IFam wr w9.heap.size gr5 N c5' R5)∧Hid (Gz.rowsI (rows.drop s) s L' t=Gz.rowsI rows 0 L [])∧Hid (Rising t 1 s)∧Hid (L'.length≤L.length+s∧nT'≤nT+s∧L.length≤L'.length)∧Hid (∀l∈L',∀x∈l,ItG g x)∧Hid (Blk wr gb 32 #[.slice AT g.nt cT,.slice AN g.nn cN,.slice AR g.R.length cR,.int .i64 g.s])) (fun jj _=>N-(intOf jj).toNat)
     case atStart=>exact⟨0,_,V,L,D,nT,DT,[],zeL _,rfl,HEM,HF5,Hd rfl,Hd ⟨List.Pairwise.nil,fun x hx=>by cases hx⟩,Hd ⟨leR _,leR _,leR _⟩,Hd HOK.out.1,HG5⟩
     case round=>
       obtain⟨s,sv',V',L',D',nT',DT',t,hsN,rfl,HS6,HF6,HRI,HRT,HLL,HOK6,HG6⟩:=hrel;rename World=>w6
       by_cases hlt2:s<N
       · have hlen5:=HF6.out.len
         obtain⟨⟨kv,kl5⟩,hx⟩:∃x,R5[s]?=some x:=⟨_,eG (by omega)⟩
         have hrow:rows[s]?=some kl5:=by rw[←HR5.out,pG,hx];rfl
         have HRS:=Hd (by have h:=HRI.out;rw[drop_more hrow,Gz.rowsI]at h;exact h);have hko:=HSO.out.1 kl5 (mG hrow);have HSP:Hid (kl5.length≠0→1≤s):=Hd (fun hne=>by
          rcases Nat.eq_zero_or_pos s with rfl|h
          ·have h0:=HSO.out.2
           rw[dG,hrow]at h0;exact absurd (by rw[show kl5=[] from h0];rfl) hne
          ·exact h)
         have HOW:=Hd (HF6.out.own s _ hx);obtain⟨Ak,ck,hkv⟩:=own_shape HOW.out;simp only at hkv;subst hkv;have g5:=own_cell HF6.out.row s (by omega);rw[pG,hx]at g5;simp only[Option.map_some]at g5;have hsN2:(s:Int)<(N:Int):=by omega
         obtain⟨hLL1,hLL2,hLL3⟩:=HLL.out;obtain⟨hNI1,hNI2,hNI3⟩:=HNI.out;have HKO:=Hd hko;clear hlen5 hx hrow hko;by_cases h0:kl5.length=0
         ·have HRZ:Hid (Gz.rowsI (rows.drop (s+1)) (s+1) L' t=Gz.rowsI rows 0 L []):=Hd (by have h:=HRS.out;rw[if_pos h0]at h;exact h)
          generalize hq0:kl5.length=q0 at *;subst h0;clear hq0;go_wp2_with fail
          go_roundw
          case rel=>exact⟨s+1,sv',V',L',D',nT',DT',t,by omega,by go_num,HS6,HF6,HRZ,Hd HRT.out.skip,Hd (by omega),HOK6,HG6⟩
          case measure=>simp[intOf];omega
         ·have HRZ:Hid (Gz.rowsI (rows.drop (s+1)) (s+1) (stateL L' kl5).2 (t++[(s,(stateL L' kl5).1)])=Gz.rowsI rows 0 L []):=Hd (by have h:=HRS.out;rw[if_neg h0]at h;exact h)
          have hs1:=HSP.out h0;have hpos:(0:Int)<(kl5.length:Int):=by omega
          obtain⟨hst1,hst2,hst3⟩:=stateL_len L' kl5;have hLV6:=HS6.out.bld.len;have hV6:V'.length<100000:=by omega
          have hj:(stateL L' kl5).1≤100000:=by omega
          have hEI:=HEI.out;have hi7:i≤100000:=by omega
          have HD6:=Hd (HS6.out.later (w2:=w6.drew) ((Below.refl _ w6).drew));have HST:=Hd (state_any HD6.out.bld (iv:=.slice Ak kl5.length ck) (l:=kl5) (own_base (own_below HOW.out ((Below.refl _ w6).drew)) (HS.out.bld.below.size)) ⟨HKO.out.1,fun x hx=>by have:=HKO.out.2 x hx;unfold ItG at this;omega⟩ hV6);have z7:w6.cell? ⟨bb,7,none⟩=some (.map (some tb)):=by have h:=HS6.out.bld.blk.cell 7;rw[←HVV.out]at h;exact h
          have HJ:=Hd (And.intro hst1 (And.intro hst2 hj));generalize hjj:(stateL L' kl5).1=jj at *;generalize hLL7:(stateL L' kl5).2=L7 at *;have HJJ:=Hd (And.intro hjj hLL7);have HOK7:Hid (∀m∈L7,∀x∈m,ItG g x):=Hd (by rw[←hLL7];exact stateL_ok HOK6.out HKO.out.2);have HB6:=Hd (show nT'≤10000000∧i≤100000∧s≤100000 by omega);have HBD:Hid (L7.length≤L.length+(s+1)∧nT'+1≤nT+(s+1)∧L.length≤L7.length):=Hd (by omega);clear hLV6 hjj hLL7 hst1 hst2 hst3 hEI hi7 h0;go_wp2_with fail
          go_region_law (first|(
                   go_simp;go_at_call 108;refine HST.out.mono ?_;rintro e w7 ⟨rfl,sv7,V7,D7,hb7,hc7⟩;have hS7:=HD6.out.stated (by rw[HJJ.out.2]at hb7;exact hb7) hc7;obtain⟨w8,hput,hm8,hg8⟩:=to_put hS7.tm HB6.out.1 HB6.out.2.1 HB6.out.2.2 HJ.out.2.2;rw[HJJ.out.1];have z8:w7.cell? ⟨bb,7,none⟩=some (.map (some tb)):=by have h:=hS7.bld.blk.cell 7;rw[←HVV.out]at h;exact h
                   have HF7:=Hd (HD6.out.keep hc7 (HF6.out.later ((Below.refl _ w6).drew)));have HG7:Hid (Blk w7 gb 32 #[.slice AT g.nt cT,.slice AN g.nn cN,.slice AR g.R.length cR,.int .i64 g.s]):=Hd (hc7.blk (Blk.drew HG6.out) (by
                    rintro(e|e|e)
                    ·exact Blk.ne_ HS6.out.bld.blk HG6.out (by decide) e.symm
                    ·exact map_ne HS6.out.bld.map HG6.out e
                    ·exact own_blk_ne HS6.out.bld.rows HG6.out (by decide) e))
                   have HS7:=Hd hS7;have HM8:=Hd hm8;have HG8:=Hd hg8;clear hS7 hb7 hc7 hm8 hg8))
          all_goals go_wp2_with fail
          all_goals go_roundw
          all_goals first
           | exact⟨s+1,sv7,V7,L7,D7,nT'+1,_,t++[(s,jj)],by omega,by go_num,Hd (HS7.out.mapped HG8.out HM8.out ((HS7.out.td.next HS7.out.tm.isMap HB6.out.2.1 HB6.out.2.2).congr (fun a b=>by rw[←HEI.out];exact edgeOf_put E t s jj (fun x hx=>(HRT.out.btw x hx).2) a b))),Hd (HS7.out.keepT HG8.out HF7.out),HRZ,Hd (HRT.out.add hs1 jj),HBD,HOK7,Hd ((Chg.of_map HG8.out).blk HG7.out (map_ne HS7.out.tm HG7.out))⟩
           | (simp[intOf];omega)
       · have hsN3:s=N:=by omega
         have hrl:rows.length=N:=by rw[←HR5.out,lM,HF6.out.len]
         have HRN:Hid ((L',t)=Gz.rowsI rows 0 L []):=Hd (by have h:=HRI.out;rw[List.drop_of_length_le (by omega),Gz.rowsI]at h;exact h);have HRT2:Hid (Rising t 1 N):=Hd (by rw[←hsN3];exact HRT.out);have hL7:L'.length≤2000:=by have h:=HR2.out;rw[←HRN.out]at h;exact h
         have hLV6:=HS6.out.bld.len;have hV6:¬((2000:Int)<(V'.length:Int)):=by omega
         obtain⟨sb',sc',hsv'⟩:=own_someQ HS6.out.bld.rows (by have:=HLL.out;have:=hlt;have:=HLV.out;omega);subst hsv';have z5:w6.cell? ⟨bb,5,none⟩=some (.slice (some ⟨sb',0,none⟩) V'.length sc'):=by have h:=HS6.out.bld.blk.cell 5;rw[←HVV.out]at h;exact h
         have HBN2:Hid (g.buildI bg fu (i+1) L' (E++[t])=some (Lf,Ef)):=Hd (by have h:=HBN.out;rw[←HRN.out]at h;exact h);have HFI:Hid ((E++[t]).length=i+1∧i+1≤L'.length∧L'.length≤2000∧nT'≤1000*(i+1)∧1≤L'.length):=Hd (by have h1:=HLL.out;have h2:=HNI.out;have h3:=HLV.out;have h4:=HEI.out;rw[lnA,List.length_singleton];omega)
         have HOKN:Hid ((∀l∈L',∀x∈l,ItG g x)∧∀u∈E++[t],Rising u 1 N):=Hd ⟨HOK6.out,fun u hu=>by
          rcases mA.1 hu with h1|h1
          ·exact HOK.out.2 u h1
          ·rw[mS.1 h1];exact HRT2.out⟩
         have hi2000:=HNI.out.2.2;clear hsN3 hrl hL7 hLV6;go_wp2_with fail
         go_roundg fu
         case measure=>omega
         case rel=>exact⟨i+1,_,V',L',D',nT',DT',E++[t],by go_num,HS6,HBN2,HFI,HOKN,HG6⟩
   · obtain⟨rfl,rfl⟩:L=Lf∧E=Ef:=by
       have h:=HBX.out;unfold Gz.buildI at h;rw[nG (by omega)]at h;injection h with h;injection h with h1 h2;exact⟨h1,h2⟩
     have hiV:i=V.length:=by omega
     have hEV:E.length=V.length:=by omega
     have HR:=Hd HOK.out.2;have HIL:=Hd HOK.out.1;have hTS:=TSp.start HR.out;rw[hEV]at hTS;have HTS:=Hd hTS;have HTR:=Hd HS.out.trs;have hn2:V.length≤2000:=by omega
     have HTD:=Hd HS.out.td;have hVV:vv.cells=#[.slice AT g.nt cT,.slice AN g.nn cN,.slice AR g.R.length cR,.int .i64 g.s]:=by rw[←HVV.out];rfl
     rw[hVV]at HTR;have HNN:=HN.out;rw[←HNN]at HTR;obtain⟨n,hn⟩:∃n,n=V.length:=⟨_,rfl⟩
     rw[←hn]at HTR HTS hn2 c5 hlt hEV hiV;have HEV:=Hd hEV;have hin:¬((i:Int)<(n:Int)):=by omega
     clear HNN hVV hTS hEV hiV hEi hLV hL2 hnT hiL hL1 hn hlt;go_wp2_with fail
     go_loopw [79] (fun ii wr=>∃(k:Nat) (V':List (Value×Value)) (T:List (List It)),k≤n∧ii=.int .i64 k∧Hid (Trs w wr bb tb (#[.slice AT g.nt cT,.slice AN g.nn cN,.slice AR g.R.length cR,.int .i64 g.s]++#[.slice (some ⟨gr,0,none⟩) N N,.slice (some ⟨sb,0,none⟩) n sc,.map (some mb),.map (some tb)]) sb sc n V' L T nT DT)∧Hid (TSp T E n k 1)∧Hid (Blk wr gb 32 #[.slice AT g.nt cT,.slice AN g.nn cN,.slice AR g.R.length cR,.int .i64 g.s])) (fun ii _=>n-(intOf ii).toNat)
     case atStart=>exact⟨0,V,_,zeL _,rfl,HTR,HTS,HGX⟩
     case round=>
       obtain⟨k,V1,T1,hkn,rfl,HT1,HP1,HG1⟩:=hrel;rename World=>w10
       by_cases hlt2:k<n
       · go_wp2_with fail
         go_loopw [10] (fun ss wr=>∃(s:Nat) (V':List (Value×Value)) (T:List (List It)),1≤s∧s≤N∧ss=.int .i64 s∧Hid (Trs w wr bb tb (#[.slice AT g.nt cT,.slice AN g.nn cN,.slice AR g.R.length cR,.int .i64 g.s]++#[.slice (some ⟨gr,0,none⟩) N N,.slice (some ⟨sb,0,none⟩) n sc,.map (some mb),.map (some tb)]) sb sc n V' L T nT DT)∧Hid (TSp T E n k s)∧Hid (Blk wr gb 32 #[.slice AT g.nt cT,.slice AN g.nn cN,.slice AR g.R.length cR,.int .i64 g.s])) (fun ss _=>N-(intOf ss).toNat)
         case atStart=>exact⟨1,V1,T1,leR _,(by rw[HN.out];omega),rfl,HT1,HP1,HG1⟩
         case round=>
          obtain⟨s,V2,T2,hs1,hsN,rfl,HT2,HP2,HG2⟩:=hrel;rename World=>w11
          have x0:=Blk.cell HG2.out 0;have x1:=Blk.cell HG2.out 1;have x2:=Blk.cell HG2.out 2;have x3:=Blk.cell HG2.out 3;simp at x0 x1 x2 x3;have HTT:=Hd (HT.out w11 HT2.out.below);by_cases hlt3:s<N
          ·have hk7:k≤100000:=by omega
           have hs7:s≤100000:=by omega
           have hsl:(s:Int)≤(g.top:Int):=by have:=HN.out;omega
           cases he:edgeOf E k s with
           | none=>
            have HE:=Hd he;have HPN:=Hd (HP2.out.skip HR.out he);clear he;go_wp2_with (
                go_at_call 38;refine HTT.out.mono ?_;rintro e w12 ⟨rfl,hb12⟩
                have HT12:=Hd (HT2.out.later hb12);have HG12:=Hd (HG2.out.below hb12 HG2.out.lt);have z7:w12.cell? ⟨bb,7,none⟩=some (.map (some tb)):=Blk.cell HT12.out.blk 7;have hlook:=to_look HT12.out.tm HTD.out hk7 hs7;rw[HE.out]at hlook;simp only[Option.getD_none,Option.isSome_none]at hlook;clear hb12)
            go_roundw
            case rel=>exact⟨s+1,V2,T2,by omega,by omega,by go_num,HT12,HPN,HG12⟩
            case measure=>simp[intOf];omega
           | some j=>
            have HE:=Hd he;have HPN:=Hd (HP2.out.add HR.out hlt2 he);have hln:=HT2.out.len;obtain⟨⟨iv,tv⟩,hV⟩:∃x,V2[k]?=some x:=⟨_,eG (by omega)⟩
            obtain⟨tl,hT⟩:∃x,T2[k]?=some x:=⟨_,eG (by omega)⟩
            have hTg:T2.getD k []=tl:=by rw[dG,hT];rfl
            rw[hTg]at HPN;have htl:tl.length≤1000:=by have h:=HP2.out.2.2 k hlt2;rw[if_neg (by omega),if_pos rfl,hTg]at h;rw[h];have h1:=rising_len _ _ _ (getD_rising HR.out k);have h2:=List.length_filter_le (fun x:It=>decide (x.1<s)) (E.getD k []);unfold lows;omega
            obtain⟨At,ct,htv⟩:=own_shape (HT2.out.trans k _ tl hV hT);simp only at htv;subst htv;have HVX:=Hd hV;have HTX:=Hd hT;have hkn2:(k:Int)<(n:Int):=by omega
            clear he hln hV hT hTg;go_wp2_with (
                go_at_call 38;refine HTT.out.mono ?_;rintro e w12 ⟨rfl,hb12⟩
                have HT12:=Hd (HT2.out.later hb12);have HG12:=Hd (HG2.out.below hb12 HG2.out.lt);have z7:w12.cell? ⟨bb,7,none⟩=some (.map (some tb)):=Blk.cell HT12.out.blk 7;have z5:w12.cell? ⟨bb,5,none⟩=some (.slice (some ⟨sb,0,none⟩) n sc):=Blk.cell HT12.out.blk 5;have hlook:=to_look HT12.out.tm HTD.out hk7 hs7;rw[HE.out]at hlook;simp only[Option.getD_some,Option.isSome_some]at hlook;obtain⟨_,t1⟩:=st_cells HT12.out.rows HVX.out;simp only at t1;have l12:sb<w12.heap.size:=World.block_lt_of_cell? w12 _ t1;have m12:bb<w12.heap.size:=World.block_lt_of_cell? w12 _ z5;clear hb12)
            have HOW:=Hd (HT12.out.trans k _ tl HVX.out HTX.out);go_region_law (
                 refine step_app ElTrans (.tmp 112) (.tmp 116) ?_ ?_ (base:=w.heap.size) (n:=tl.length) (m:=1) (N:=tl.length+1) (v:=.slice At tl.length ct) (src:=.slice (some ⟨w12.heap.size,0,none⟩) 1 1) (xs:=tl.flatMap itC) (news:=itC (s,j)) ?_ ?_ ?_ ?_ ?_ ?_ ?_ ?_ ?_
                 ·rfl
                 ·rfl
                 ·rfl
                 ·rfl
                 ·first|exact(own_below HOW.out ((Below.refl _ w12).drew)).alloc _|exact own_below (HOW.out.alloc _) ((Below.refl _ _).drew)
                 ·first|exact trans_src (s,j) w12.drew|exact trans_src (s,j) w12
                 ·rfl
                 ·unfold maxLen;omega
                 ·omega
                 ·have:=HT12.out.below.size;simp;omega
                 intro A3 c3 w3 r1 r2 r3;have HR1_:=Hd r1;have HR2_:=Hd r2;have HR3_:=Hd r3;have b3:Blk w3 bb 179 (#[.slice AT g.nt cT,.slice AN g.nn cN,.slice AR g.R.length cR,.int .i64 g.s]++#[.slice (some ⟨gr,0,none⟩) N N,.slice (some ⟨sb,0,none⟩) n sc,.map (some mb),.map (some tb)]):=by first|exact r2.blk ((HT12.out.blk.drew).alloc _) (.inr (by decide))|exact r2.blk (Blk.drew (HT12.out.blk.alloc _)) (.inr (by decide))
                 have c3_:w3.cell? ⟨bb,5,none⟩=some (.slice (some ⟨sb,0,none⟩) n sc):=Blk.cell b3 5;have o3:w3.ownsRow w.heap.size 71 2 (.slice (some ⟨sb,0,none⟩) n sc) n (V2.flatMap stC):=by first|exact r2.own ((own_below HT12.out.rows ((Below.refl _ w12).drew)).alloc _) (.inr (by decide))|exact r2.own (own_below (HT12.out.rows.alloc _) ((Below.refl _ _).drew)) (.inr (by decide))
                 have q3:=(st_cells o3 HVX.out).2;have f3:=own_frozen o3 (k*2+1);have HG3:Hid (Blk w3 gb 32 #[.slice AT g.nt cT,.slice AN g.nn cN,.slice AR g.R.length cR,.int .i64 g.s]∧gb≠sb):=Hd (by
                  have hg3:Blk w3 gb 32 #[.slice AT g.nt cT,.slice AN g.nn cN,.slice AR g.R.length cR,.int .i64 g.s]:=by first|exact r2.blk ((HG12.out.drew).alloc _) (.inr (by decide))|exact r2.blk (Blk.drew (HG12.out.alloc _)) (.inr (by decide))
                  refine⟨hg3,fun e=>own_blk_ne o3 hg3 (by decide) (by rw[e];rfl)⟩)
                 simp only at q3;clear r1 r2 r3 b3 o3)
            all_goals go_wp2_with fail
            all_goals go_roundw
            all_goals first
             | (simp[intOf];omega)
             | (refine⟨s+1,_,_,by omega,by omega,by go_num,Hd (HT12.out.put HVX.out HTX.out ?_ HR1_.out HR2_.out HR3_.out),HPN,Hd (HG3.out.1.far HG3.out.2 _)⟩;exact⟨rfl,rfl,rfl,by simp,fun k hk=>Below.heap_alloc w12 _ _ hk⟩)
          ·have hsE:s=N:=by omega
           have hsl:¬((s:Int)≤(g.top:Int)):=by have:=HN.out;omega
           have HPN:Hid (TSp T2 E n (k+1) 1):=Hd ((by rw[←hsE];exact HP2.out:TSp T2 E n k N).turn HR.out);clear hsE;go_wp2_with (
               go_at_call 38;refine HTT.out.mono ?_;rintro e w12 ⟨rfl,hb12⟩
               have HT12:=Hd (HT2.out.later hb12);have HG12:=Hd (HG2.out.below hb12 HG2.out.lt);clear hb12)
           go_roundw
           case rel=>exact⟨k+1,V2,T2,by omega,by go_num,HT12,HPN,HG12⟩
           case measure=>simp[intOf];omega
       · obtain rfl:k=n:=by omega
         have HTE:=Hd HP1.out.done;have z5:w10.cell? ⟨bb,5,none⟩=some (.slice (some ⟨sb,0,none⟩) k sc):=Blk.cell HT1.out.blk 5;go_wp2_with fail
         go_ret2
         refine⟨_,V1,rfl,?_,HT1.out.below⟩;rw[←HTE.out];refine HT1.out.autO (HT1.out.aut (fun l hl=>(HS.out.bld.ok l hl).1) (fun t ht=>?_));rw[HTE.out]at ht;have:=rising_len _ _ _ (HR.out t ht);omega
theorem build_any{w:World}{v:Value}{g:Gz}(hg:GN w v g){f:Nat}{Lf Ef:List (List It)}(ha:g.autoI f=some (Lf,Ef)) :
  Calls Tryz.prog 60 #[v] w fun e w'=>∃lv V,e=.returned (.tuple #[lv,.int .i64 0])∧Aut w' lv V Lf Ef∧Below w.heap.size w w':=by
 refine(build_own hg ha).mono ?_;rintro e w' ⟨lv,V,h1,h2,h3⟩;exact⟨lv,V,h1,h2.aut,h3⟩
end Go.Proofs.YthaacmablcpdfaaGreatDoor
