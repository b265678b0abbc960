/- The actions of a place. No clashes. -/
import Derived.Test.YthaacmablcpdfaaGreatDoorZbs
import Derived.Test.YthaacmablcpdfaaGreatDoorZbt
import Derived.Test.YthaacmablcpdfaaGreatDoorNm
namespace Go.Proofs.YthaacmablcpdfaaGreatDoor
open Go.RowKit
set_option linter.unusedVariables false
set_option maxRecDepth 100000
attribute [local go_sem] Oper.semAt_some
def PossEnd(w:World)(own t:Nat)(iv tv kv:Value)(e:Ending)(w':World):Prop:=
 ∃sb tb kb ob,e=.returned (.func (.func 63) #[] #[.pointer (some ⟨sb,0,none⟩),.pointer (some ⟨tb,0,none⟩),.pointer (some ⟨kb,0,none⟩),.pointer (some ⟨ob,0,none⟩)])∧w.heap.size≤sb∧w.heap.size≤tb∧w.heap.size≤kb∧w.heap.size≤ob ∧
  Blk w' sb 71 #[iv,tv]∧Blk w' tb 3 #[.int .i64 t]∧Blk w' kb 76 #[kv]∧Blk w' ob 3 #[.int .i64 own]∧Below w.heap.size w w'
theorem poss_any{w:World}{own t:Nat}{Ai At Ak:Option Addr}{ni ci nt ct nk ck:Nat} :
  Calls Tryz.prog 27 #[.int .i64 own,.agg #[.slice Ai ni ci,.slice At nt ct],.slice Ak nk ck,.int .i64 t] w (PossEnd w own t (.slice Ai ni ci) (.slice At nt ct) (.slice Ak nk ck)):=by
 unfold PossEnd;go_enter Tryz.func27,Tryz.ntmps27
 go_wp2;go_ret;have s0:(w.alloc (.cells #[.int .i64 own] 3)).heap.size=w.heap.size+1:=by simp
 have s1:((w.alloc (.cells #[.int .i64 own] 3)).alloc (.cells #[.slice Ai ni ci,.slice At nt ct] 71)).heap.size=w.heap.size+1+1:=by simp
 have s2:(((w.alloc (.cells #[.int .i64 own] 3)).alloc (.cells #[.slice Ai ni ci,.slice At nt ct] 71)).alloc (.cells #[.slice Ak nk ck] 76)).heap.size=w.heap.size+1+1+1:=by simp
 refine⟨_,_,_,_,rfl,by omega,by omega,by omega,leR _,?_,?_,?_,?_,?_⟩
 ·exact((Blk.newAt s0).alloc _).alloc _
 ·exact Blk.newAt s2
 ·exact(Blk.newAt s1).alloc _
 ·exact(((Blk.new w _ _).alloc _).alloc _).alloc _
 ·exact(((below_alloc w _).alloc (by omega) _).alloc (by omega) _).alloc (by omega) _
theorem nums_numsA{w:World}{v:Value}{l:List Nat}(h:Nums w v l):NumsA (fun b=>b<w.heap.size) w v l:=by
 refine⟨h,fun b hb hl=>?_⟩;obtain⟨⟨Ad,c,hv,hcc⟩,-,-⟩:=h;obtain⟨x,hx⟩:∃x,l[0]?=some x:=⟨_,eG hl⟩
 obtain⟨b',off,hA,hlt,-⟩:=hcc 0 x hx;rw[hv,hA]at hb;simp only[Value.ownBlock,Option.some.injEq]at hb;omega
theorem LkL.lkA{w:World}{m:Nat}{v:Value}{l:List (Nat×Nat)}(h:LkL w m v l):LkA (fun b=>b<w.heap.size) w m v l:=by
 refine RowA.mono (show RowA (fun b=>b<w.heap.size) w v l.length 2 _ from h) (fun _=>id) (fun k j x _ _ hx=>?_);split at hx
 ·rename_i hj;rw[if_pos hj];exact hx
 ·rename_i hj;rw[if_neg hj];exact nums_numsA hx
theorem Prs.prsA{w:World}{v:Value}{l:List It}(h:Prs w v l)(hl:l.length≤1000000):PrsA (fun b=>b<w.heap.size) w v l:=by
 obtain⟨⟨A,c,hv,hc⟩,-,hr⟩:=h;refine⟨A,c,hv,(hr A l.length c hv).1,hl,fun k hk=>?_⟩;obtain⟨x,hx⟩:∃x,l[k]?=some x:=⟨_,eG hk⟩
 obtain⟨b,off,hA,hlt,h1,h2⟩:=hc k x hx;have hg:l.getD k (0,0)=x:=by rw[dG,hx];rfl
 refine⟨b,off,hA,hlt,hlt,fun j hj=>?_⟩
 match j,hj with
 | 0,_=>exact⟨_,h1,by dsimp only;rw[hg];rfl⟩
 | 1,_=>exact⟨_,h2,by dsimp only;rw[hg];rfl⟩
theorem MadeL.at_{w:World}{v:Value}{g:Gz}{L E:List (List It)}{K:List (List (Nat×Nat))}(h:MadeL w v g L E K){i:Nat}(hi:i<L.length)(hK:K.length=L.length)(hE:(E.getD i []).length≤1000000) :
  ∃AL cL Ao co b off Ai ni ci At nt ct b2 off2 Ak nk ck,v=.agg #[.int .i64 g.R.length,.slice AL L.length cL,.slice Ao L.length co]∧AL=some ⟨b,off,none⟩∧Ao=some ⟨b2,off2,none⟩ ∧
   (∀y,Below w.heap.size w y→b<y.heap.size∧b2<y.heap.size∧y.cell? ⟨b,off+i*2,none⟩=some (.slice Ai ni ci)∧y.cell? ⟨b,off+i*2+1,none⟩=some (.slice At nt ct)∧y.cell? ⟨b2,off2+i,none⟩=some (.slice Ak nk ck)) ∧
   PrsA (fun b=>b<w.heap.size) w (.slice At nt ct) (E.getD i [])∧LkA (fun b=>b<w.heap.size) w (g.nt+1) (.slice Ak nk ck) (K.getD i []):=by
 obtain⟨lv,lo,V,rfl,⟨⟨AL,cL,rfl,-,hc⟩,⟨hl1,hl2⟩,hit,htr,-⟩,⟨Ao,co,rfl,-,-,hr⟩⟩:=h;rw[hK]at hr ⊢;rw[←hl1];obtain⟨x,hx⟩:∃x,V[i]?=some x:=⟨_,eG (by omega)⟩
 obtain⟨l,hl⟩:∃l,L[i]?=some l:=⟨_,eG hi⟩
 obtain⟨t,ht⟩:∃t,E[i]?=some t:=⟨_,eG (by omega)⟩
 obtain⟨b,off,hA,hlt,e0,e1⟩:=hc i x hx;obtain⟨b2,off2,hA2,-,hlt2,hcc⟩:=hr i hi;obtain⟨kv,h0,hk⟩:=hcc 0 (by omega);have hI:=hit i x l hx hl;have hT:=htr i x t hx ht;have eT:E.getD i []=t:=by rw[dG,ht];rfl
 rw[eT]at hE ⊢;obtain⟨⟨Ai,ci,hvi,-⟩,-,-⟩:=id hI;obtain⟨⟨At,ct,hvt,-⟩,-,-⟩:=id hT;obtain⟨Ak,ck,hvk,-⟩:=hk.lkA.form;rw[hvi]at e0;rw[hvt]at e1 hT;rw[hvk]at h0 hk;rw[Nat.mul_one,Nat.add_zero]at h0;exact⟨AL,cL,Ao,co,b,off,Ai,_,ci,At,_,ct,b2,off2,Ak,_,ck,rfl,hA,hA2,fun y hy=>⟨ltL hlt hy.size,ltL hlt2 hy.size,(hy.cell (p:=⟨b,off+i*2,none⟩) hlt).trans e0,(hy.cell (p:=⟨b,off+i*2+1,none⟩) hlt).trans e1,(hy.cell (p:=⟨b2,off2+i,none⟩) hlt2).trans h0⟩,hT.prsA hE,hk.lkA⟩
def actC(x:It):List Value:=[.int .i64 x.1,.int .i64 x.2]
theorem ElAct:El Tryz.prog 72 78 2 16:=El.of (z:=.agg #[.int .i64 0,.int .i64 0]) Tryz.underlying72 (by kernel_rfl) rfl (by decide)
theorem acts_len(own t:Nat)(tr:List It)(lk:List (Nat×Nat)):(shO t tr++acO own t lk++reO own t lk).length≤tr.length+lk.length+lk.length:=by
 have h1:(shO t tr).length≤tr.length:=by
  unfold shO;rw[lM];split
  ·exact List.length_filter_le _ _
  ·simp
 have h2:(acO own t lk).length≤lk.length:=by unfold acO;rw[lM];exact List.length_filter_le _ _
 have h3:(reO own t lk).length≤lk.length:=by unfold reO;rw[lM];exact List.length_filter_le _ _
 simp only[lnA];omega
def AtI(w:World)(bx:Nat)(W:World)(pre:List It)(A':Nat→Prop)(W':World):Prop:=OutBox 78 2 72 w bx pre.length (pre.flatMap actC) A' W'∧W.heap.size≤W'.heap.size
set_option maxHeartbeats 3200000 in
theorem at_any{w:World}{v:Value}{g:Gz}{L E:List (List It)}{K:List (List (Nat×Nat))}(h:MadeL w v g L E K){i t:Nat}(hi:i<L.length)(hL:L.length≤1000000)(hK:K.length=L.length)(hE:(E.getD i []).length≤1000000)(hk:(K.getD i []).length≤1000000)(ht:t≤g.nt)(hnt:g.nt≤120) :
  Calls Tryz.prog 62 #[v,.int .i64 i,.int .i64 t] w fun e w'=>∃o,e=.returned o∧OutM 78 2 w (g.actsK (E.getD i []) (K.getD i []) t).length ((g.actsK (E.getD i []) (K.getD i []) t).flatMap actC) o w':=by
 obtain⟨AL,cL,Ao,co,b,off,Ai,ni,ci,At,nt,ct,b2,off2,Ak,nk,ck,rfl,rfl,rfl,hcc,hpt,hlk⟩:=h.at_ hi hK hE;rw[actsK_eq];have hlen:=acts_len g.R.length t (E.getD i []) (K.getD i []);generalize E.getD i []=tr at *;generalize K.getD i []=lk at *;obtain⟨xs,hxs⟩:∃xs,shO t tr++acO g.R.length t lk++reO g.R.length t lk=xs:=⟨_,rfl⟩
 have hi1:(i:Int)<(L.length:Int):=by omega
 generalize L.length=nL at *;generalize hown:g.R.length=own at *;rw[hxs]at hlen ⊢;obtain⟨W0,hW0⟩:∃W0,(w.alloc (.cells #[.int .i64 own,.slice (some ⟨b,off,none⟩) nL cL,.slice (some ⟨b2,off2,none⟩) nL co] 60)).alloc (.cells #[.slice none 0 0] 72)=W0:=⟨_,rfl⟩
 have hb0:Below w.heap.size w W0:=by rw[←hW0];exact(below_alloc w _).alloc (by simp) _
 have hs0:W0.heap.size=w.heap.size+2:=by rw[←hW0];simp
 have hm0:Blk W0 w.heap.size 60 #[.int .i64 own,.slice (some ⟨b,off,none⟩) nL cL,.slice (some ⟨b2,off2,none⟩) nL co]:=by rw[←hW0];exact(Blk.new w _ _).alloc _
 have ho0:Blk W0 (w.heap.size+1) 72 #[.slice none 0 0]:=by rw[←hW0];exact Blk.newAt (by simp)
 have HCC:Hid (∀y,Below W0.heap.size W0 y→y.cell? ⟨w.heap.size,0,none⟩=some (.int .i64 own)∧y.cell? ⟨w.heap.size,1,none⟩=some (.slice (some ⟨b,off,none⟩) nL cL)∧y.cell? ⟨w.heap.size,2,none⟩=some (.slice (some ⟨b2,off2,none⟩) nL co)∧y.cell? ⟨b,off+i*2,none⟩=some (.slice Ai ni ci)∧y.cell? ⟨b,off+i*2+1,none⟩=some (.slice At nt ct)∧y.cell? ⟨b2,off2+i,none⟩=some (.slice Ak nk ck)):=Hd (fun y hy=>by obtain⟨h1,h2,h3,h4,h5⟩:=hcc y (hb0.trans (hy.mono hb0.size));have hm:=hm0.below hy hm0.lt;exact⟨hm.cell 0,hm.cell 1,hm.cell 2,h3,h4,h5⟩)
 obtain⟨c0,c1,c2,c3,c4,c5⟩:=HCC.out W0 (Below.refl _ _);have HB0:=Hd hb0;have HS0:=Hd hs0;have HO0:=Hd ho0;have HW0:=Hd hW0;have HPT:=Hd hpt;have HLK:=Hd hlk;have HXS:=Hd hxs;have HLE:=Hd hlen;have HT:=Hd (And.intro ht hnt);have HEK:=Hd (And.intro hE hk);have HP:=Hd (fun y:World=>poss_any (w:=y) (own:=own) (t:=t) (Ai:=Ai) (At:=At) (Ak:=Ak) (ni:=ni) (ci:=ci) (nt:=nt) (ct:=ct) (nk:=nk) (ck:=ck));clear h hi hL hK hE hk ht hnt hcc hpt hlk hxs hb0 hs0 hm0 ho0 hlen hown;refine(callsIn_wide (n:=0)).1 ?_;refine callsIn_of_wp_marks Tryz.func62 rfl trivial ?_ rfl
 simp only[Tryz.ntmps62,List.size_toArray,List.length_cons,List.length_nil,Nat.reduceAdd,Nat.reduceSub,Array.replicate_succ,Array.replicate_zero,List.push_toArray,List.append_toArray,List.nil_append,List.cons_append];refine wpIn_wide.2 ?_;have HD0:Hid (Below W0.heap.size W0 W0.drew):=Hd ((Below.refl W0.heap.size W0).drew);go_upto_region 2 with fail
 clear hW0
 go_region_held3 (fun v=>v.cell? ⟨w.heap.size,0,none⟩=some (.int .i64 own)∧v.cell? ⟨w.heap.size,1,none⟩=some (.slice (some ⟨b,off,none⟩) nL cL)∧v.cell? ⟨w.heap.size,2,none⟩=some (.slice (some ⟨b2,off2,none⟩) nL co)∧v.cell? ⟨b,off+i*2,none⟩=some (.slice Ai ni ci)∧v.cell? ⟨b,off+i*2+1,none⟩=some (.slice At nt ct)∧v.cell? ⟨b2,off2+i,none⟩=some (.slice Ak nk ck))
  (first|exact HCC.out _ HD0.out|exact HCC.out _ HB1.out)
  (first|(
     go_at_call 27;refine(HP.out _).mono ?_;rintro e w1 ⟨sb,tb,kb,ob,rfl,h1,h2,h3,h4,k1,k2,k3,k4,hb1⟩
     have HB1:Hid (Below W0.heap.size W0 w1):=Hd (HD0.out.trans hb1);have HK:=Hd (And.intro (And.intro h1 (And.intro h2 (And.intro h3 h4))) (And.intro k1 (And.intro k2 (And.intro k3 k4))));clear h1 h2 h3 h4 k1 k2 k3 k4 hb1))
 obtain⟨⟨h1,h2,h3,h4⟩,k1,k2,k3,k4⟩:=HK.out;have h1:W0.heap.size≤sb:=h1;have h2:W0.heap.size≤tb:=h2;have h3:W0.heap.size≤kb:=h3;have h4:W0.heap.size≤ob:=h4;have hbw:Below w.heap.size w w1:=HB0.out.trans (HB1.out.mono HB0.out.size);have hA:∀b,(b<w.heap.size∨(W0.heap.size≤b∧b<w1.heap.size))→b<w1.heap.size:=fun b hb=>hb.elim (fun h=>ltL h hbw.size) (·.2)
 have hsm:Same (fun b=>b<w.heap.size) w w1:=fun b hb=>hbw.block b hb
 have hseq:=poss1_seq (A:=fun b=>b<w.heap.size∨(W0.heap.size≤b∧b<w1.heap.size)) (w:=w1) (m:=g.nt+1) (by have:=HT.out;omega) (by have:=HT.out;omega) hA (.inr ⟨h1,k1.lt⟩) (.inr ⟨h2,k2.lt⟩) (.inr ⟨h3,k3.lt⟩) (.inr ⟨h4,k4.lt⟩) k1 k2 k3 k4
  (HPT.out.keep (fun _=>.inl) hbw.size hsm) (HLK.out.keep (fun _=>.inl) hbw.size hsm)
 rw[HXS.out]at hseq;have hob:Blk w1 (w.heap.size+1) 72 #[.slice none 0 0]:=HO0.out.below HB1.out HO0.out.lt;have hI0:AtI w (w.heap.size+1) w1 [] (fun b=>b<w.heap.size∨(W0.heap.size≤b∧b<w1.heap.size)) w1:=by refine⟨⟨by omega,?_,.slice none 0 0,hob,⟨none,0,rfl,⟨by simp,.inl ⟨rfl,rfl⟩⟩,hbw⟩,fun b hb=>by cases hb⟩,leR _⟩;have:=HS0.out;rintro(h|h)<;>omega
 have hlw:w.heap.size+1<w1.heap.size:=hob.lt;have HSEQ:=Hd hseq;have HA1:=Hd hA;have HI0:=Hd hI0;have HBW:=Hd hbw;clear hseq hA hI0 hbw hsm hob h1 h2 h3 h4 k1 k2 k3 k4 HK HP HCC HB0 HB1 HO0 HW0 HPT HLK HD0 c0 c1 c2 c3 c4 c5;go_wp2;refine(wpIn_wide (n:=0)).1 ?_;refine range_top (gf:=63) (lb:=#[.pointer (some ⟨sb,0,none⟩),.pointer (some ⟨tb,0,none⟩),.pointer (some ⟨kb,0,none⟩),.pointer (some ⟨ob,0,none⟩)]) rfl (fun _ _=>by kernel_rfl) HSEQ.out HA1.out (fun _=>rfl)
  (AtI w (w.heap.size+1) w1) (fun c A' W'=>False) ?hI ?hIx ?h0 ?hround ?hdone ?hstop
 case hI=>exact fun s A1 A2 U U' h hc hA'=>⟨h.1.shy (by omega) hc hA',leT h.2 hc.size⟩
 case hIx=>exact fun c s A1 A2 U U' h _ _=>h
 case h0=>exact HI0.out
 case hstop=>exact fun D c A' W' _ _ _ _ h _=>h.elim
 case hdone=>rintro D A5 W5 hD hAD hsup hlt ⟨hj,-⟩ hK;obtain⟨o,b0,hoo⟩:=hj.fin2 (D:=D) (by omega) hAD (.deferred none);have HO:=Hd hoo;clear hoo hj;go_wp2;refine⟨by simp,.inl ⟨_,_,rfl,run_takeDeferred hK,?_⟩⟩;refine⟨_,results_tmp rfl _ _ _,?_⟩;exact⟨o,rfl,HO.out⟩
 case hround=>
  rintro l1 pre x A5 W5 hpre hl1 hl1W hAl hsup hlt ⟨hj,hsz5⟩;obtain⟨xk,xn⟩:=x;obtain⟨W6,hW6⟩:∃W6,W5.alloc (.cells #[.int .i64 xk,.int .i64 xn] 78)=W6:=⟨_,rfl⟩
  have hb6:Below W5.heap.size W5 W6:=by rw[←hW6];exact below_alloc _ _
  have hx6:Blk W6 W5.heap.size 78 #[.int .i64 xk,.int .i64 xn]:=by rw[←hW6];exact Blk.new _ _ _
  have hs6:W6.heap.size=W5.heap.size+1:=by rw[←hW6];simp
  have hpl:=hpre.length_le;have HB6:=Hd hb6;have HX6:=Hd hx6;have HJ:=Hd hj;have HLT5:=Hd hlt;have HPL:=Hd hpl;simp only[encA];clear hb6 hx6 hj hlt hsup hpre hpl;simp
  gi_wp2
  refine⟨by omega,fun b hb=>HB6.out.block b (HLT5.out b hb),fun W7 hc7 hs7 r hr=>?_⟩;have hx7:Blk W7 W5.heap.size 78 #[.int .i64 xk,.int .i64 xn]:=hc7.blk HX6.out (by omega);have hj6:=HJ.out.shy (B:=W5.heap.size) (A':=A5) (by omega) (Chg.of_below HB6.out) (fun _=>.inl);have hj7:=hj6.shy (B:=w.heap.size) (A':=A5) (leR _) (hc7.mono (fun b hb=>by subst hb;exact⟨by omega,hAl⟩)) (fun _=>.inl);have hlt7:∀b,A5 b→b<W7.heap.size:=fun b hb=>by have:=HLT5.out b hb;omega
  have x0:=hx7.cell 0;have x1:=hx7.cell 1;have xl:=hx7.lt;obtain⟨hbx,hAb,o,hblk,⟨Ao,oc,rfl,ho,hbw⟩,hoA⟩:=hj7;have b0:=hblk.cell 0;have f0:=hblk.frozen 0;simp at b0 x0 x1;have hws:=hbw.size;have HBLK:=Hd hblk;have HO:=Hd ho;have HBW:=Hd hbw;have HOA:=Hd hoA;have HLT7:=Hd hlt7;have hpn:pre.length+1≤3000000:=by have h1:=HPL.out;have h2:=HLE.out;have h3:=HEK.out;simp at h1;omega
  generalize hpq:pre.length=n at *;have HPQ:=Hd hpq;clear hx7 hj6 hblk ho hbw hoA hlt7 HX6 HJ hr hc7 hpq
  gi_wp2_with (first
   | (
    gi_at_builtin;refine wpListIn_app ElAct (.tmp 24) (.tmp 26) rfl rfl (base:=w.heap.size) (n:=n) (m:=1) (N:=n+1) (v:=.slice Ao n oc) (src:=.slice (some ⟨W7.heap.size,0,none⟩) 1 1) (xs:=pre.flatMap actC) (news:=[.int .i64 xk,.int .i64 xn]) rfl rfl (own_below HO.out (below_alloc _ _)) (SrcOK.blk (c:=1) (cs:=[.int .i64 xk,.int .i64 xn]) (Blk.new W7 78 _) rfl (by simp[Value.oneCell'])) rfl (by unfold maxLen;omega) (by omega) (by simp;omega) ?_
    intro A9 c9 w9 r1 r2 r3;have hblk9:=r2.blk (HBLK.out.alloc _) (.inr (by decide));have b9:=hblk9.cell 0;have f9:=hblk9.frozen 0;simp at b9;have hfin:=OutBox.put hbx hAb HBLK.out HOA.out HLT7.out HO.out HBW.out ((Chg.refl _ W7).alloc _) r3.1 r3.2 r1 (by decide);have HFIN:=Hd hfin;clear r1 r2 r3 hblk9 hfin))
  refine⟨HFIN.out.2.size,same_of_chg HFIN.out.2 HLT7.out,?_,?_⟩
  ·rw[lnA,List.flatMap_append,HPQ.out]
   exact HFIN.out.1
  ·have h1:=HFIN.out.2.size
   omega
def Calm(g:Gz)(E:List (List It))(K:List (List (Nat×Nat))):Prop:=∀i t,i<E.length→t≤g.nt→(g.actsK (E.getD i []) (K.getD i []) t).length≤1
structure Sz(g:Gz)(L E:List (List It))(K:List (List (Nat×Nat))):Prop where
 l:L.length≤1000000
 e:E.length=L.length
 k:K.length=L.length
 es:∀i,(E.getD i []).length≤1000000
 ks:∀i,(K.getD i []).length≤1000000
 nt:g.nt≤120
set_option maxHeartbeats 3200000 in
theorem clashes_any{w:World}{v:Value}{g:Gz}{L E:List (List It)}{K:List (List (Nat×Nat))}(h:MadeL w v g L E K)(hs:Sz g L E K)(hc:Calm g E K) :
  Calls Tryz.prog 25 #[v,.int .i64 g.nt] w fun e w'=>e=.returned (.slice none 0 0)∧Below w.heap.size w w':=by
 have HAT:Hid (∀y i t,Below w.heap.size w y→i<L.length→t≤g.nt→Calls Tryz.prog 62 #[v,.int .i64 i,.int .i64 t] y fun e w'=>∃Ao n co,e=.returned (.slice Ao n co)∧n≤1∧Below y.heap.size y w'):=Hd (fun y i t hy hi ht=>(at_any (h.later hy) hi hs.l hs.k (hs.es i) (hs.ks i) ht hs.nt).mono (by rintro e w' ⟨o,rfl,Ao,co,rfl,-,hb⟩;exact⟨Ao,_,co,rfl,hc i t (by rw[hs.e];exact hi) ht,hb⟩))
 have hl:=hs.l;have hnt:=hs.nt;obtain⟨lv,lo,V,rfl,⟨⟨AL,cL,rfl,-,-⟩,⟨hl1,-⟩,-,-,-⟩,⟨Ao,co,rfl,-,-,-⟩⟩:=h;have hk:=hs.k;rw[hk]at HAT ⊢;rw[←hl1]at HAT ⊢;clear hs hc hk hl1;generalize L.length=n at *;generalize g.nt=nt at *;generalize g.R.length=own at *;have hmb:=Blk.new w 60 #[.int .i64 own,.slice AL n cL,.slice Ao n co];have hb0:=below_alloc w (.cells #[.int .i64 own,.slice AL n cL,.slice Ao n co] 60);have HMB:=Hd hmb;have HB0:=Hd hb0;clear hmb hb0;go_enter Tryz.func25,Tryz.ntmps25
 go_wp2_with fail
 go_loopw [13,5] (fun ii o wr=>∃i:Nat,i≤n∧ii=.int .i64 i∧o=.slice none 0 0∧Hid (Below (w.heap.size+1) (w.alloc (.cells #[.int .i64 own,.slice AL n cL,.slice Ao n co] 60)) wr)) (fun ii _ _=>n-(intOf ii).toNat)
 case atStart=>exact⟨0,zeL _,rfl,rfl,Hd (by simpa using Below.refl _ _)⟩
 case round=>
  obtain⟨i,hi,rfl,rfl,HB⟩:=hrel;rename World=>w9
  by_cases hlt:i<n
  ·go_wp2_with fail
   go_loopw [18,5] (fun tt o wr=>∃t:Nat,t≤nt+1∧tt=.int .i64 t∧o=.slice none 0 0∧Hid (Below (w.heap.size+1) (w.alloc (.cells #[.int .i64 own,.slice AL n cL,.slice Ao n co] 60)) wr)) (fun tt _ _=>nt+1-(intOf tt).toNat)
   case atStart=>exact⟨0,zeL _,rfl,rfl,HB⟩
   case round=>
    clear HB;obtain⟨t,ht,rfl,rfl,HB⟩:=hrel;rename World=>w8
    have hbw:Below w.heap.size w w8:=HB0.out.trans (HB.out.mono (by omega));have hmb:=HMB.out.below (by simpa using HB.out) HMB.out.lt;have c0:=hmb.cell 0;have c1:=hmb.cell 1;have c2:=hmb.cell 2;have cl:=hmb.lt;simp at c0 c1 c2;have HBW:=Hd hbw;clear hmb hbw;by_cases hlt2:t<nt+1
    ·have HA:=Hd (HAT.out w8 i t HBW.out hlt (by omega))
     go_wp2_with (go_at_call 62;refine HA.out.mono ?_;rintro e w7 ⟨Aa,na,ca,rfl,hna,hb7⟩;have HB7:=Hd hb7;have hq:¬((1:Int)<(na:Int)):=(by omega);clear hb7)
     go_loopw [9,5] (fun kk o wr=>kk=.int .i64 1∧o=.slice none 0 0∧Hid (wr=w7)) (fun _ _ _=>0)
     case atStart=>exact⟨rfl,rfl,Hd rfl⟩
     case round=>
      obtain⟨rfl,rfl,HW⟩:=hrel;have hw:=HW.out;subst hw;clear HW;go_wp2;go_roundw
      case rel=>exact⟨t+1,by omega,by go_num,rfl,Hd (HB.out.trans (HB7.out.mono (by have:=HB.out.size;simpa using this)))⟩
      case measure=>simp[intOf];omega
    ·obtain rfl:t=nt+1:=by omega
     go_wp2;go_roundw
     case rel=>exact⟨i+1,by omega,by go_num,rfl,HB⟩
     case measure=>simp[intOf];omega
  ·obtain rfl:i=n:=by omega
   go_wp2;go_ret;exact⟨rfl,HB0.out.trans (HB.out.mono (by omega))⟩
end Go.Proofs.YthaacmablcpdfaaGreatDoor
