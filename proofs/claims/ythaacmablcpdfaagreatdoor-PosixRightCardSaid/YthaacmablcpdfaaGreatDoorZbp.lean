/- A state's lookaheads. -/
import Derived.Test.YthaacmablcpdfaaGreatDoorZbo
import Derived.Test.YthaacmablcpdfaaGreatDoorNm
namespace Go.Proofs.YthaacmablcpdfaaGreatDoor
open Go.RowKit
set_option linter.unusedVariables false
set_option maxRecDepth 100000
theorem ElLook:El Tryz.prog 76 129 2 32:=El.of (z:=.agg #[.int .i64 0,.slice none 0 0]) Tryz.underlying76 (by kernel_rfl) rfl (by decide)
def posE(ps:List It)(s:Nat):Option Nat:=(ps.reverse.find? (fun p=>p.1==s)).map (·.2)
theorem posE_add(ps:List It)(x b s:Nat):(if s=x then some b else posE ps s)=posE (ps++[(x,b)]) s:=by
 unfold posE;rw[List.reverse_append,List.reverse_singleton,List.singleton_append,List.find?_cons];by_cases h:s=x
 ·subst h
  rw[if_pos rfl];simp
 ·have h2:((x,b).1==s)=false:=beq_false_of_ne (fun e=>h e.symm)
  rw[if_neg h,h2]
theorem posE_mem{ps:List It}{s j:Nat}(h:posE ps s=some j):∃p∈ps,p.2=j:=by unfold posE at h;obtain⟨p,hp,e⟩:=Option.map_eq_some_iff.1 h;exact⟨p,List.mem_reverse.1 (List.mem_of_find?_eq_some hp),e⟩
theorem endsAt_app(g:Gz):∀(K:List It) (x:It) (b:Nat),g.endsAt (K++[x]) b=g.endsAt K b++(if x.2=(g.right x.1).length then[(x.1,b+K.length)] else[])
 | [],x,b=>by
  show g.endsAt [x] b=_;unfold Gz.endsAt Gz.endsAt;split
  ·simp
  ·simp
 | y::K,x,b=>by
  rw[List.cons_append];unfold Gz.endsAt;rw[endsAt_app g K x (b+1)];have e:b+1+K.length=b+(y::K).length:=by simp;omega
  rw[e];split
  ·rw[List.cons_append]
  ·rfl
theorem endsAt_lt{g:Gz}:∀(K:List It) (b:Nat),∀p∈g.endsAt K b,p.2<b+K.length
 | [],b,p,hp=>by unfold Gz.endsAt at hp;cases hp
 | y::K,b,p,hp=>by
  unfold Gz.endsAt at hp;split at hp
  ·rcases List.mem_cons.1 hp with rfl|h
   ·simp
   ·have:=endsAt_lt K (b+1) p h
    simp;omega
  ·have:=endsAt_lt K (b+1) p hp
   simp;omega
def lkC(z:Value×(Nat×Nat)):List Value:=[.int .i64 (z.2.1:Nat),z.1]
structure Lkr(w wr:World)(m:Nat)(ov:Value)(Z:List (Value×(Nat×Nat))):Prop where
 below:Below w.heap.size w wr
 row:wr.ownsRow w.heap.size 129 2 ov Z.length (Z.flatMap lkC)
 own:∀z∈Z,wr.ownsRow w.heap.size 3 1 z.1 (bitsL m z.2.2).length ((bitsL m z.2.2).map NatV)
theorem Lkr.start(w:World)(m:Nat):Lkr w w m (.slice none 0 0) []:=⟨Below.refl _ _,⟨rfl,.inl ⟨rfl,rfl⟩⟩,fun z hz=>by cases hz⟩
theorem Lkr.later{w wr w2:World}{m:Nat}{ov:Value}{Z:List (Value×(Nat×Nat))}(h:Lkr w wr m ov Z)(hb:Below wr.heap.size wr w2):Lkr w w2 m ov Z:=
 ⟨h.below.trans (hb.mono h.below.size),own_below h.row hb,fun z hz=>own_below (h.own z hz) hb⟩
theorem Lkr.more{w w2 w3:World}{m:Nat}{ov:Value}{Z:List (Value×(Nat×Nat))}(h:Lkr w w2 m ov Z){tv:Value}{k S:Nat}(ht:w2.ownsRow w.heap.size 3 1 tv (bitsL m S).length ((bitsL m S).map NatV)){A:Option Addr}{c:Nat}
  (r1:w3.ownsRow w.heap.size 129 2 (.slice A (Z.length+1) c) (Z.length+1) (Z.flatMap lkC++lkC (tv,(k,S)))) (r2:Keeps w.heap.size [129] w2 w3):Lkr w w3 m (.slice A (Z.length+1) c) (Z++[(tv,(k,S))]):=by
 refine⟨h.below.trans (r2.below h.below.size),?_,fun z hz=>?_⟩
 ·rw[List.flatMap_append,lnA]
  simpa using r1
 ·rcases mA.1 hz with h1|h1
  ·exact r2.own (h.own z h1) (.inr (by decide))
  ·rw[mS.1 h1]
   exact r2.own ht (.inr (by decide))
section
variable {w1 w3 w:World} {mb fb n c:Nat} {v lv rv tlv uv cv bv av ev:Value} {g:Gz} {V:List (Value×Value)} {L E:List (List It)} {T:List (List (Nat×Bool))} {CC:List (List Come)} {base:List Nat} {P:List SetH} {S:List Nat} {ED:List (Option SetH×Edge)} {FR:List (Value×List It)}
def LooksEnd(w:World)(m:Nat)(l:List (Nat×Nat))(e:Ending)(w':World):Prop:=∃A c2 Z,e=.returned (.slice A l.length c2)∧Z.map (·.2)=l∧Lkr w w' m (.slice A l.length c2) Z
set_option maxHeartbeats 16000000 in
theorem mlooks_any(hs:Stc w1 w3 mb fb v lv rv tlv uv cv g V L E T CC)(hsm:Small L base)(h:Mk w1 w3 w mb fb n c v lv rv tlv uv cv bv av ev g base P S ED FR){st:Nat}{K:List It}(hK:L[st]?=some K)(hKR:∀x∈K,x.1≤g.R.length∧x.2≤1000000){fv:Value}{F:List It}(hF:FR[st]?=some (fv,F))(hFR:∀f∈F,f.1≤g.R.length∧f.2<P.length)(hFl:F.length≤100000)(hP:P.length≤100000)(hbK:base.getD st 0+K.length≤P.length) :
  Calls Tryz.prog 115 #[.pointer (some ⟨mb,0,none⟩),.int .i64 st] w (LooksEnd w (g.nt+1) (g.looksK S (g.endsAt K (base.getD st 0)++F))):=by
 have hnr:=hs.gn.fit.nr;obtain⟨AT,cT,AN,cN,AR,cR,rfl,-,-⟩:=hs.gn.open_;obtain⟨⟨z0,z1,z2,z3⟩,z4,z5,z6,z7,z8,z9,z10,z11,z12⟩:=h.cells;have hA:=hs.aut.later h.below;obtain⟨⟨AL,cL,rfl,hcap,hc⟩,⟨hl1,hl2⟩,hit,-,hsmall⟩:=hA;have hstL:=(sG.1 hK).1;obtain⟨xv,hxv⟩:∃x,V[st]?=some x:=⟨_,eG (by omega)⟩
 obtain⟨bL,oL,rfl,hbL,c0,c1⟩:=hc st xv hxv;obtain⟨⟨Ai,ci,hvi,hci⟩,hsi,hri⟩:=hit st xv K hxv hK;rw[hvi]at c0;obtain⟨b0,hb0⟩:∃x,base[st]?=some x:=⟨_,eG (by rw[hsm.1];exact hstL)⟩
 have hgb:base.getD st 0=b0:=by rw[dG,hb0];rfl
 rw[hgb]at hbK;obtain⟨⟨AB,cB,hbv,hcB⟩,_,_⟩:Nums w bv base:=nums_own h.bas (by rw[hsm.1];omega);obtain⟨bb,ob,hAB,hbb,hcb⟩:=hcB st b0 hb0;subst hbv;subst hAB;rw[hgb];obtain⟨br,or_,cr,_,_,hrv,_,_,_⟩:=hs.rts.atA (k:=0) (by omega);subst hrv;have HRX:Hid (∀y,Below w.heap.size w y→∀k,k≤g.R.length→∃Ad c2,y.cell? ⟨br,or_+k,none⟩=some (.slice Ad (g.right k).length c2)∧br<y.heap.size):=Hd (fun y hy k hk=>by
  obtain⟨b',o',c',Ad,c2,e,⟨hbA,hblt⟩,hcell,_⟩:=hs.rts.atA (k:=k) (by omega);cases e
  have hch:=h.chg.next (Chg.of_below hy);exact⟨Ad,c2,(hch.cell hblt hbA.no _).trans hcell,ltL hblt hch.size⟩)
 obtain⟨Aa,ca,hav⟩:=own_shape2 h.all;subst hav;have hs2:st<n:=by have h1:=(sG.1 hF).1;have h2:=h.fin.len;omega
 obtain⟨Af,cf,hfv⟩:=own_shape2 (h.fin.own st _ hF);simp only at hfv;subst hfv;have zf:w.cell? ⟨fb,st,none⟩=some (.slice Af F.length cf):=by rw[own_cell h.fin.row st (by omega),pG,hF];rfl
 have flt:=(own_lt h.fin.row fb rfl).1;have mlt:=h.blk.lt;have HPF:Hid (Prs w (.slice Af F.length cf) F):=Hd (Prs.own (h.fin.own st _ hF) (by omega));have HM:=Hd h;obtain⟨lk,hlk⟩:∃k,K.length=k:=⟨_,rfl⟩
 obtain⟨lf,hlf⟩:∃k,F.length=k:=⟨_,rfl⟩
 obtain⟨np,hnp⟩:∃k,P.length=k:=⟨_,rfl⟩
 obtain⟨nb,hnb⟩:∃k,base.length=k:=⟨_,rfl⟩
 obtain⟨nV,hnV⟩:∃k,V.length=k:=⟨_,rfl⟩
 have HLK:=Hd hlk;have HLF:=Hd hlf;have HNP:=Hd hnp;have hstb:st<nb:=by rw[←hnb,hsm.1];exact hstL
 rw[hlk]at c0 hbK;rw[hlf]at zf hFl;rw[hnp]at hP hbK z10;rw[hnb]at z9;rw[hnV]at z4;have HZ:Hid (∀y,Below w.heap.size w y→y.cell? ⟨mb,9,none⟩=some (.slice (some ⟨bb,ob,none⟩) nb cB)∧y.cell? ⟨bb,ob+st,none⟩=some (.int .i64 (b0:Nat))∧y.cell? ⟨mb,5,none⟩=some (.slice (some ⟨br,or_,none⟩) (g.R.length+1) cr)∧y.cell? ⟨mb,12,none⟩=some (.slice (some ⟨fb,0,none⟩) n c)∧y.cell? ⟨fb,st,none⟩=some (.slice Af lf cf)∧y.cell? ⟨mb,10,none⟩=some (.slice Aa np ca)∧mb<y.heap.size∧bb<y.heap.size∧fb<y.heap.size):=Hd (fun y hy=>by have hsz:=hy.size;exact⟨(hy.cell (p:=⟨mb,9,none⟩) mlt).trans z9,(hy.cell (p:=⟨bb,ob+st,none⟩) hbb).trans hcb,(hy.cell (p:=⟨mb,5,none⟩) mlt).trans z5,(hy.cell (p:=⟨mb,12,none⟩) mlt).trans z12,(hy.cell (p:=⟨fb,st,none⟩) flt).trans zf,(hy.cell (p:=⟨mb,10,none⟩) mlt).trans z10,by omega,by omega,by omega⟩)
 have HCI:Hid (∀y,Below w.heap.size w y→∀k x,K[k]?=some x→∃b off,Ai=some ⟨b,off,none⟩∧b<y.heap.size∧y.cell? ⟨b,off+k*2,none⟩=some (.int .i64 x.1)∧y.cell? ⟨b,off+k*2+1,none⟩=some (.int .i64 x.2)):=Hd (fun y hy k x hx=>by obtain⟨b,off,hA,hlt,e1,e2⟩:=hci k x hx;exact⟨b,off,hA,ltL hlt hy.size,(hy.cell (p:=⟨b,off+k*2,none⟩) hlt).trans e1,(hy.cell (p:=⟨b,off+k*2+1,none⟩) hlt).trans e2⟩)
 have HKR:=Hd hKR;have HFR:=Hd hFR;have hsti:(st:Int)<(nV:Int):=by omega
 have hstb2:(st:Int)<(nb:Int):=by omega
 have hstn:(st:Int)<(n:Int):=by omega
 have hmp:∀y:World,(Instr.makeMap 245 none).run Tryz.prog y=.ok (.map (some y.heap.size)) (y.alloc (.map #[] 0)):=fun y=>by kernel_rfl
 have HM0:Hid (Below w.heap.size w (w.alloc (.map #[] 0))∧IMap (w.alloc (.map #[] 0)) w.heap.size 0 (.map [])):=Hd ⟨(Below.refl _ w).alloc (leR _) _,World.ownsMap_made (H:=Unit) w Tryz.prog 3 (plainElem Tryz.prog 3)⟩;clear hs hsm h hK hKR hF hFR hci hit hc hxv hcb hb0 hgb hri hvi hsi hcB z0 z1 z2 z3 z5 z6 z7 z8 z9 z11 hlk hlf hnp hnb hnV hbb c1 z10 z12 zf flt;unfold LooksEnd;go_enter Tryz.func115,Tryz.ntmps115
 go_wp2_with fail
 generalize hmm:w.heap.size=mm at *;have HMMI:=Hd hmm;generalize w.alloc (.map #[] 0)=W0 at *;clear hmm;go_loopw [24] (fun ii wr=>∃(i nD:Nat) (D:DataW Unit),i≤lk∧ii=.int .i64 i∧nD≤i∧Hid (Below mm w wr)∧Hid (IMap wr mm nD D)∧Hid (PoD D (posE (g.endsAt (K.take i) b0)))) (fun ii _=>lk-(intOf ii).toNat)
 case atStart=>exact⟨0,0,_,zeL _,rfl,leR _,Hd HM0.out.1,Hd HM0.out.2,Hd (PoD.start.congr fun s=>rfl)⟩
 case round=>
  obtain⟨i,nD,D,hi,rfl,hnD,HB,HI,HD⟩:=hrel;rename World=>w4
  obtain⟨k9,kb,k5,k12,kf,k10,lm,lb,lfb⟩:=HZ.out w4 HB.out;by_cases hlt:i<lk
  ·obtain⟨⟨xa,xb⟩,hx⟩:∃x,K[i]?=some x:=⟨_,eG (by rw[HLK.out];exact hlt)⟩
   obtain⟨bi,oi,rfl,hbi,d0,d1⟩:=HCI.out w4 HB.out i _ hx;obtain⟨hxr,hxs⟩:=HKR.out _ (mG hx);simp only at d0 d1 hxr hxs;obtain⟨Ar,cr2,kr,lr⟩:=HRX.out w4 HB.out xa hxr;obtain⟨rl,hrl⟩:∃k,(g.right xa).length=k:=⟨_,rfl⟩
   rw[hrl]at kr;have HXB:=Hd (Blk.new w4 194 #[.int .i64 xa,.int .i64 xb]);have HB5:Hid (Below mm w (w4.alloc (.cells #[.int .i64 xa,.int .i64 xb] 194))):=Hd (HB.out.alloc (by have:=HB.out.size;rw[HMMI.out]at this;exact this) _);have HI5:Hid (IMap (w4.alloc (.cells #[.int .i64 xa,.int .i64 xb] 194)) mm nD D):=Hd (HI.out.alloc _);have HTK:Hid (g.endsAt (K.take (i+1)) b0=g.endsAt (K.take i) b0++(if xb=rl then[(xa,b0+i)] else[])):=Hd (by
    have e:K.take (i+1)=K.take i++[(xa,xb)]:=by rw[List.take_add_one,hx];rfl
    rw[e,endsAt_app,List.length_take];simp only;rw[hrl,show min i K.length=i by rw[HLK.out];omega])
   have hxr1:(xa:Int)<((g.R.length+1:Nat):Int):=by omega
   have hxr2:(xa:Int)<(g.R.length:Int)+1:=by omega
   clear hx hrl;go_upto_region 5 with fail
   have x0:(w4.alloc (.cells #[.int .i64 xa,.int .i64 xb] 194)).cell? ⟨w4.heap.size,0,none⟩=some (.int .i64 xa):=Blk.cell HXB.out 0;have x1:(w4.alloc (.cells #[.int .i64 xa,.int .i64 xb] 194)).cell? ⟨w4.heap.size,1,none⟩=some (.int .i64 xb):=Blk.cell HXB.out 1;have xl:=HXB.out.lt;go_quiet (fail)
   have HXQ:Hid (Blk ((w4.alloc (.cells #[.int .i64 xa,.int .i64 xb] 194)).drewN nq) w4.heap.size 194 #[.int .i64 xa,.int .i64 xb]):=Hd (HXB.out.drewN nq);have HB6:Hid (Below mm w ((w4.alloc (.cells #[.int .i64 xa,.int .i64 xb] 194)).drewN nq)):=Hd (HB5.out.trans ⟨rfl,rfl,rfl,leR _,fun _ _=>rfl⟩);have HI6:Hid (IMap ((w4.alloc (.cells #[.int .i64 xa,.int .i64 xb] 194)).drewN nq) mm nD D):=Hd HI5.out;generalize (w4.alloc (.cells #[.int .i64 xa,.int .i64 xb] 194)).drewN nq=w5 at *;generalize w4.heap.size=bx at *;clear x0 x1 xl k9 kb k5 k12 kf k10 kr lr hxr1 hxr2 d0 d1 hbi HI HI5 HB5 HXB lm lb lfb
   by_cases hend:xb=rl
   ·have hq1:((xb:Int)==(rl:Int))=true:=by rw[hend];simp
    obtain⟨k9,kb,k5,k12,kf,k10,lm,lb,lfb⟩:=HZ.out w5 HB6.out;have x0:w5.cell? ⟨bx,0,none⟩=some (.int .i64 xa):=Blk.cell HXQ.out 0;have xl:=HXQ.out.lt;obtain⟨w6,hput,hm6,hg6⟩:=po_put (w:=w5.drew) HI6.out (by omega) (s:=xa) (c:=b0+i) (by omega) (by omega);have hc6:Chg (·=mm) w5.drew w6:=Chg.of_map hg6;have hsum:IntKind.i64.wrap ((b0:Int)+(i:Int))=((b0+i:Nat):Int):=by rw[IntKind.wrap_i64];omega
    have HDN:Hid (PoD (D.put (klN xa) (.lit (.int .i64 ((b0+i:Nat):Int)))) (posE (g.endsAt (K.take (i+1)) b0))):=Hd (by
     refine(HD.out.next HI6.out.isMap xa (b0+i)).congr fun s=>?_
     rw[HTK.out,if_pos hend];exact posE_add _ _ _ _)
    have HB7:Hid (Below mm w w6):=Hd (by have hd:Below mm w w5.drew:=HB6.out.drew;exact hd.trans (hc6.below (by have:=hd.size;have:=HMMI.out;omega) (fun k hk e=>by have e2:k=mm:=e;omega)))
    have HM6:=Hd hm6;rw[Int.natCast_add]at hput hsum;clear hm6 hg6 hc6 hend;go_upto_region 6 with fail
    refine wp_regionK 12 (fun(v:World)=>v.cell? ⟨bx,0,none⟩=some (.int .i64 xa)∧v.cell? ⟨mb,9,none⟩=some (.slice (some ⟨bb,ob,none⟩) nb cB)∧v.cell? ⟨bb,ob+st,none⟩=some (.int .i64 b0)) (by kernel_rfl) ?_;have hHeld:(fun(v:World)=>v.cell? ⟨bx,0,none⟩=some (.int .i64 xa)∧v.cell? ⟨mb,9,none⟩=some (.slice (some ⟨bb,ob,none⟩) nb cB)∧v.cell? ⟨bb,ob+st,none⟩=some (.int .i64 b0)) w5.drew:=⟨x0,k9,kb⟩
    refine takeQ 0 hHeld ?_;simp only[setS,setZ];refine takeQ 1 hHeld ?_;simp only[setS,setZ];refine takeQ 2 hHeld ?_;simp only[setS,setZ];refine takeQ 3 hHeld ?_;simp only[setS,setZ];refine takeQ 4 hHeld ?_;simp only[setS,setZ];refine takeQ 5 hHeld ?_;simp only[setS,setZ];refine takeQ 6 hHeld ?_;simp only[setS,setZ];refine takeQ 7 hHeld ?_;simp only[setS,setZ];refine takeQ 8 hHeld ?_;simp only[setS,setZ];refine takeQ 9 hHeld ?_;simp only[setS,setZ];refine takeQ 10 hHeld ?_;simp only[setS,setZ];refine takeQ 11 hHeld ?_;simp only[setS,setZ];clear hHeld;refine nextK 12 (by kernel_rfl) rfl rfl (fun K hK=>?_)
    go_simp;refine hK.out _ _ (fun h=>absurd rfl h) ?_;clear hK K;refine doneK (by kernel_rfl) ?_ _;go_wp2_with fail
    go_roundw
    case rel=>exact⟨i+1,nD+1,_,by omega,by go_num,by omega,HB7,HM6,HDN⟩
    case measure=>simp[intOf];omega
   ·have hq1:((xb:Int)==(rl:Int))=false:=by rw[bN];omega
    have HDN:Hid (PoD D (posE (g.endsAt (K.take (i+1)) b0))):=Hd (by have h:=HD.out;rw[HTK.out,if_neg hend,List.append_nil];exact h)
    clear hend;go_wp2_with fail
    go_roundw
    case rel=>exact⟨i+1,nD,D,by omega,by go_num,by omega,HB6,HI6,HDN⟩
    case measure=>simp[intOf];omega
  ·obtain rfl:i=lk:=by omega
   have HD0:Hid (PoD D (posE (g.endsAt K b0++F.take 0))):=Hd (by have h:=HD.out;rw[tkL (by rw[HLK.out];exact leR _)]at h;rw[List.take_zero,List.append_nil];exact h)
   clear HD;go_wp2_with fail
   clear k9 kb k5 k12 kf k10 lm lb lfb;go_loopw [62] (fun ii wr=>∃(i2 nD:Nat) (D:DataW Unit),i2≤lf∧ii=.int .i64 i2∧nD≤i+i2∧Hid (Below mm w wr)∧Hid (IMap wr mm nD D)∧Hid (PoD D (posE (g.endsAt K b0++F.take i2)))) (fun ii _=>lf-(intOf ii).toNat)
   case atStart=>exact⟨0,nD,D,zeL _,rfl,by omega,HB,HI,HD0⟩
   case round=>
    obtain⟨i2,nD2,D2,hi2,rfl,hnD2,HB2,HI2,HD2⟩:=hrel;rename World=>w8
    obtain⟨k9,kb,k5,k12,kf,k10,lm,lb,lfb⟩:=HZ.out w8 HB2.out;by_cases hlt:i2<lf
    ·obtain⟨⟨xa,xb⟩,hx⟩:∃x,F[i2]?=some x:=⟨_,eG (by rw[HLF.out];exact hlt)⟩
     obtain⟨hxr,hxs⟩:=HFR.out _ (mG hx);obtain⟨⟨A',c',e,hc⟩,-,-⟩:=HPF.out.later (by rw[HMMI.out];exact HB2.out);have e2:Af=A':=by cases e;rfl
     subst e2;obtain⟨bi,oi,rfl,hbi,d0,d1⟩:=hc i2 _ hx;simp only at d0 d1 hxr hxs;rw[HNP.out]at hxs;have HB9:Hid (Below mm w (w8.alloc (.cells #[.int .i64 xa,.int .i64 xb] 248))):=Hd (HB2.out.alloc (by have:=HB2.out.size;rw[HMMI.out]at this;exact this) _);obtain⟨w9,hput,hm9,hg9⟩:=po_put (w:=w8.alloc (.cells #[.int .i64 xa,.int .i64 xb] 248)) (HI2.out.alloc _) (by omega) (s:=xa) (c:=xb) (by omega) (by omega);have hc9:Chg (·=mm) (w8.alloc (.cells #[.int .i64 xa,.int .i64 xb] 248)) w9:=Chg.of_map hg9;have HDN:Hid (PoD (D2.put (klN xa) (.lit (.int .i64 (xb:Int)))) (posE (g.endsAt K b0++F.take (i2+1)))):=Hd (by
      refine(HD2.out.next HI2.out.isMap xa xb).congr fun s=>?_
      have e3:F.take (i2+1)=F.take i2++[(xa,xb)]:=by rw[List.take_add_one,hx];rfl
      rw[e3,←List.append_assoc];exact posE_add _ _ _ _)
     have HB10:Hid (Below mm w w9):=Hd (HB9.out.trans (hc9.below (by have:=HB9.out.size;have:=HMMI.out;omega) (fun k hk e=>by have e2:k=mm:=e;omega)));have HM9:=Hd hm9;clear hx hc e hm9 hg9 hc9;go_wp2_with fail
     go_roundw
     case rel=>exact⟨i2+1,nD2+1,_,by omega,by go_num,by omega,HB10,HM9,HDN⟩
     case measure=>simp[intOf];omega
    ·obtain rfl:i2=lf:=by omega
     obtain⟨ps,hps⟩:∃l,g.endsAt K b0++F=l:=⟨_,rfl⟩
     have HD3:Hid (PoD D2 (posE ps)):=Hd (by have h:=HD2.out;rw[tkL (by rw[HLF.out];exact leR _),hps]at h;exact h)
     have HPS:Hid (∀p∈ps,p.2<np):=Hd (fun p hp=>by
      rw[←hps]at hp;rcases mA.1 hp with h1|h1
      ·have:=endsAt_lt K b0 p h1
       rw[HLK.out]at this;omega
      ·have:=(HFR.out p h1).2
       rw[HNP.out]at this;exact this)
     have HPSE:=Hd hps;clear hps HD2;go_wp2_with fail
     clear k9 kb k5 k12 kf k10 lm lb lfb;have HL0:Hid (Lkr w w8 (g.nt+1) (.slice none 0 0) []):=Hd ((Lkr.start w (g.nt+1)).later (by rw[HMMI.out];exact HB2.out));go_loopw [10,77] (fun ov kk wr=>∃(k:Nat) (Z:List (Value×(Nat×Nat))),k≤g.R.length+1∧kk=.int .i64 k∧Hid (Lkr w wr (g.nt+1) ov Z)∧Hid (IMap wr mm nD2 D2)∧Hid (Z.map (·.2)=(List.range k).filterMap fun k=>(ps.reverse.find? (fun p=>p.1==k)).map fun p=>(k,S.getD p.2 0))∧Z.length≤k) (fun _ kk _=>g.R.length+1-(intOf kk).toNat)
     case atStart=>exact⟨0,[],zeL _,rfl,HL0,HI2,Hd rfl,leR _⟩
     case round=>
      obtain⟨k,Z,hk,rfl,HL,HI3,HZZ,hzk⟩:=hrel;rename World=>w9
      have HB9:Hid (Below mm w w9):=Hd (by have h:=HL.out.below;rw[HMMI.out]at h;exact h);obtain⟨k9,kb,k5,k12,kf,k10,lm,lb,lfb⟩:=HZ.out w9 HB9.out;obtain⟨Ao,co,hov⟩:=own_shape2 HL.out.row;obtain⟨zl,hzl⟩:∃x,Z.length=x:=⟨_,rfl⟩
      have HZL:=Hd hzl;rw[hzl]at hzk hov;subst hov;by_cases hlt:k<g.R.length+1
      ·have hlk:=po_look HI3.out HD3.out (s:=k) (by omega)
       have HRG:Hid ((List.range (k+1)).filterMap (fun k=>(ps.reverse.find? (fun p=>p.1==k)).map fun p=>(k,S.getD p.2 0))=(List.range k).filterMap (fun k=>(ps.reverse.find? (fun p=>p.1==k)).map fun p=>(k,S.getD p.2 0))++((ps.reverse.find? (fun p=>p.1==k)).map fun p=>(k,S.getD p.2 0)).toList):=Hd (by rw[List.range_succ,List.filterMap_append];congr 1)
       have hki:(k:Int)<(g.R.length:Int)+1:=by omega
       clear hzl;cases hpe:posE ps k with
       | none=>
        rw[hpe]at hlk;simp only[Option.getD_none,Option.isSome_none]at hlk;have HZN:Hid (Z.map (·.2)=(List.range (k+1)).filterMap fun k=>(ps.reverse.find? (fun p=>p.1==k)).map fun p=>(k,S.getD p.2 0)):=Hd (by rw[HRG.out,HZZ.out];unfold posE at hpe;rw[Option.map_eq_none_iff]at hpe;rw[hpe];simp)
        clear hpe;go_wp2_with fail
        go_roundw
        case rel=>exact⟨k+1,Z,by omega,by go_num,HL,HI3,HZN,by rw[HZL.out];omega⟩
        case measure=>simp[intOf];omega
       | some j=>
        rw[hpe]at hlk;simp only[Option.getD_some,Option.isSome_some]at hlk;obtain⟨pm,hpm,hpj⟩:=posE_mem hpe;have hj:j<np:=by have:=HPS.out pm hpm;omega
        have HZN:Hid ((List.range (k+1)).filterMap (fun k=>(ps.reverse.find? (fun p=>p.1==k)).map fun p=>(k,S.getD p.2 0))=Z.map (·.2)++[(k,S.getD j 0)]):=Hd (by rw[HRG.out,HZZ.out];unfold posE at hpe;obtain⟨y,hy,e⟩:=Option.map_eq_some_iff.1 hpe;rw[hy,←e];rfl)
        clear hpe hpm hpj;obtain⟨pp,hpp⟩:∃x,P[j]?=some x:=⟨_,eG (by rw[HNP.out];exact hj)⟩
        have hM9:=HM.out.later (w2:=w9) (by rw[HMMI.out];exact HB9.out);have HST:=Hd (hM9.fam.at_ j pp hpp);have HSN:=Hd (hM9.fam.room pp (mG hpp));obtain⟨ba,hAa⟩:∃ba,Aa=some ⟨ba,0,none⟩:=by
         rcases own_form hM9.all with⟨_,h0⟩|⟨b,c',h1,_⟩
         ·rw[HNP.out]at h0;omega
         ·cases h1;exact⟨b,rfl⟩
        subst hAa;have kp:w9.cell? ⟨ba,j,none⟩=some (.pointer (some ⟨pp.h,0,none⟩)):=by rw[own_cell hM9.all j (by rw[HNP.out];omega),pG,hpp];rfl
        have hjn:(j:Int)<(np:Int):=by omega
        have HLI:=Hd (list_any HST.out);rw[HSN.out]at HLI;unfold SetH.v at HLI;obtain⟨SJ,hSJ⟩:∃x,S.getD j 0=x:=⟨_,rfl⟩
        rw[hSJ]at HLI HZN;have hbl:=bitsL_len (g.nt+1) SJ;have hzk2:zl≤1000:=by omega
        clear hpp hM9 hSJ;go_wp2_with (first
         | (
           go_at_call 159;refine HLI.out.mono ?_;rintro e w10 ⟨o,rfl,A10,c10,rfl,hr10,hb10⟩
           rw[lM]at hr10 ⊢;have HR10:=Hd hr10;have HB10:=Hd hb10;clear hr10 hb10)
         | (
           at_builtin;refine wpList_app ElLook (.tmp 87) (.tmp 98) rfl rfl (base:=w.heap.size) (n:=zl) (m:=1) (N:=zl+1) (xs:=Z.flatMap lkC) (news:=lkC (.slice A10 (bitsL (g.nt+1) SJ).length c10,(k,SJ))) rfl rfl (own_below (by have h:=(HL.out.later HB10.out).row;rw[HZL.out]at h;exact h) (below_alloc w10 (.cells #[.int .i64 k,.slice A10 (bitsL (g.nt+1) SJ).length c10] 129))) (SrcOK.blk (c:=1) (cs:=lkC (.slice A10 (bitsL (g.nt+1) SJ).length c10,(k,SJ))) (Blk.new w10 129 _) rfl (fun u hu=>by unfold lkC at hu;simp at hu;rcases hu with rfl|rfl<;>rfl)) rfl (by unfold maxLen;omega) (by omega) (by have h1:=HB9.out.size;have h2:=HB10.out.size;have h3:=HL.out.below.size;simp;omega) ?_
           intro A12 c12 w12 q1 q2 q3;have HLN:Hid (Lkr w w12 (g.nt+1) (.slice A12 (zl+1) c12) (Z++[(.slice A10 (bitsL (g.nt+1) SJ).length c10,(k,SJ))])):=Hd (by
            have hh:=(HL.out.later HB10.out).later (below_alloc w10 (.cells #[.int .i64 k,.slice A10 (bitsL (g.nt+1) SJ).length c10] 129));have ht:(w10.alloc (.cells #[.int .i64 k,.slice A10 (bitsL (g.nt+1) SJ).length c10] 129)).ownsRow w.heap.size 3 1 (.slice A10 (bitsL (g.nt+1) SJ).length c10) (bitsL (g.nt+1) SJ).length ((bitsL (g.nt+1) SJ).map NatV):=by have h0:=own_base (base':=w.heap.size) (HR10.out.alloc (.cells #[.int .i64 k,.slice A10 (bitsL (g.nt+1) SJ).length c10] 129)) HL.out.below.size;exact h0
            have hm:=hh.more (tv:=.slice A10 (bitsL (g.nt+1) SJ).length c10) (k:=k) (S:=SJ) ht (A:=A12) (c:=c12) (by rw[HZL.out];exact q1) q2;rw[HZL.out]at hm;exact hm)
           have HIN:Hid (IMap w12 mm nD2 D2):=Hd (q2.map (((Chg.of_below (X:=fun _=>False) HB10.out).map HI3.out id).alloc _));clear q1 q2 q3))
        go_roundw
        case rel=>exact⟨k+1,_,by omega,by go_num,HLN,HIN,Hd (by rw[HZN.out,mpA];rfl),by rw[lnA,HZL.out];simp;omega⟩
        case measure=>simp[intOf];omega
      ·obtain rfl:k=g.R.length+1:=by omega
       clear hzl;go_wp2_with fail
       go_ret;have hl:g.looksK S (g.endsAt K b0++F)=Z.map (·.2):=by rw[HPSE.out,HZZ.out];rfl
       rw[hl,lM,HZL.out];exact⟨Ao,co,Z,rfl,rfl,HL.out⟩
end
end Go.Proofs.YthaacmablcpdfaaGreatDoor
