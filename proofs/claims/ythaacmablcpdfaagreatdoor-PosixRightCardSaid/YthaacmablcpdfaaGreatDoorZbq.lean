/- Where the making of what stands behind a right s. The maker of lookaheads is prepared. -/
import Derived.Test.YthaacmablcpdfaaGreatDoorZbj
import Derived.Test.YthaacmablcpdfaaGreatDoorZbk
import Derived.Test.YthaacmablcpdfaaGreatDoorZbe
import Derived.Test.YthaacmablcpdfaaGreatDoorZbi
import Derived.Test.YthaacmablcpdfaaGreatDoorZbf
import Derived.Deep.DeepCutAuto
import Derived.Test.YthaacmablcpdfaaGreatDoorNm
namespace Go.Proofs.YthaacmablcpdfaaGreatDoor
open Go.RowKit
set_option linter.unusedVariables false
set_option maxRecDepth 100000
def tlC(z:SetH×(Nat×Bool)):List Value:=[z.1.v,.bool z.2.2]
structure Tlr(w1 wr:World)(m:Nat)(sv:Value)(Z:List (SetH×(Nat×Bool))):Prop where
 below:Below w1.heap.size w1 wr
 row:wr.ownsRow w1.heap.size 235 2 sv Z.length (Z.flatMap tlC)
 sets:∀z∈Z,SetAt wr z.1 z.2.1∧z.1.n=m∧w1.heap.size≤z.1.h∧w1.heap.size≤z.1.wb
theorem Tlr.start(w1:World)(m:Nat):Tlr w1 w1 m (.slice none 0 0) []:=⟨Below.refl _ _,⟨rfl,.inl ⟨rfl,rfl⟩⟩,fun z hz=>by cases hz⟩
theorem Tlr.later{w1 wr w2:World}{m:Nat}{sv:Value}{Z:List (SetH×(Nat×Bool))}(h:Tlr w1 wr m sv Z)(hb:Below wr.heap.size wr w2):Tlr w1 w2 m sv Z:=
 ⟨h.below.trans (hb.mono h.below.size),own_below h.row hb,fun z hz=>by obtain⟨a,b⟩:=h.sets z hz;exact⟨a.later hb,b⟩⟩
theorem Tlr.more{w1 w2 w3:World}{m:Nat}{sv:Value}{Z:List (SetH×(Nat×Bool))}(h:Tlr w1 w2 m sv Z){t:SetH}{S:Nat}{e:Bool}(hs:SetAt w2 t S)(hn:t.n=m)(hlt:w1.heap.size≤t.h∧w1.heap.size≤t.wb){A:Option Addr}{c:Nat}
  (r1:w3.ownsRow w1.heap.size 235 2 (.slice A (Z.length+1) c) (Z.length+1) (Z.flatMap tlC++tlC (t,(S,e)))) (r2:Keeps w1.heap.size [235] w2 w3):Tlr w1 w3 m (.slice A (Z.length+1) c) (Z++[(t,(S,e))]):=by
 refine⟨h.below.trans (r2.below h.below.size),?_,fun z hz=>?_⟩
 ·rw[List.flatMap_append,lnA]
  simpa using r1
 ·rcases mA.1 hz with h1|h1
  ·obtain⟨a,b⟩:=h.sets z h1
   exact⟨a.keeps r2 (by decide) (by decide),b⟩
  ·rw[mS.1 h1]
   exact⟨hs.keeps r2 (by decide) (by decide),hn,hlt⟩
theorem Tlr.tla{w1 wr:World}{m lo:Nat}{sv:Value}{Z:List (SetH×(Nat×Bool))}(h:Tlr w1 wr m sv Z)(hlo:lo≤w1.heap.size)(hl:Z.length≤1000000):TlA (AtB lo wr.heap.size wr) wr m sv (Z.map (·.2)):=by
 unfold TlA;rw[lM];rcases own_form h.row with⟨h1,h2⟩|⟨b,c,rfl,h1,h2,h3,_,cur,hb⟩
 ·exact⟨none,0,by rw[h1,h2],by omega,hl,fun k hk=>by omega⟩
 ·refine⟨_,c,rfl,h3,hl,fun k hk=>⟨b,0,rfl,⟨by omega,h2,_,_,hb,.inl rfl⟩,h2,fun j hj=>?_⟩⟩
  obtain⟨z,hz⟩:∃z,Z[k]?=some z:=⟨_,eG hk⟩
  obtain⟨_,hz2⟩:=sG.1 hz;have hg:(Z.map (·.2)).getD k (0,false)=z.2:=by rw[dG,pG,hz];rfl
  have g0:=fm_get tlC 2 (fun _=>rfl) Z k 0 hk (by omega);have g1:=fm_get tlC 2 (fun _=>rfl) Z k 1 hk (by omega);rw[hz2]at g0 g1;obtain⟨a1,a2,a3,a4⟩:=h.sets z (mG hz);show ∃x,wr.cell? ⟨b,0+k*2+j,none⟩=some x∧(if j=0 then ∃h:SetH,x=h.v∧h.n=m∧SetA (AtB lo wr.heap.size wr) wr h ((Z.map (·.2)).getD k (0,false)).1 else x=.bool ((Z.map (·.2)).getD k (0,false)).2)
  rw[hg,Nat.zero_add]
  match j,hj with
  | 0,_=>exact⟨z.1.v,by rw[own_cell h.row _ (by omega),g0];rfl,z.1,rfl,a2,a1,⟨by omega,a1.head.lt,_,_,a1.head,.inr (.inl rfl)⟩,⟨by omega,a1.words.lt,_,_,a1.words,.inr (.inr rfl)⟩⟩
  | 1,_=>exact⟨.bool z.2.2,by rw[own_cell h.row _ (by omega),g1];rfl,rfl⟩
theorem lineO_lt{E n:Nat}{C:List Nat}:∀(l:List Nat) (S:Nat),(∀i,C.getD i 0<2 ^ n)→S<2 ^ n→(lineO E C l S).1<2 ^ n
 | [],S,_,h=>h
 | x::l,S,hC,h=>by
  unfold lineO;have h2:=Nat.or_lt_two_pow h (hC x);split
  ·exact lineO_lt l _ hC h2
  ·exact h2
theorem FStat.line_lt{w0 wr:World}{F:Fs}{g:Gz}{E:Nat}{C:List Nat}(h:FStat w0 wr F g E C)(l:List Nat):(lineO E C l 0).1<2 ^ (g.nt+1):=by
 refine lineO_lt l 0 (fun i=>?_) (Nat.two_pow_pos _);cases hp:F.P[i]? with
 | none=>have:=List.getElem?_eq_none_iff.1 hp;rw[dG,nG (by rw[←h.fam.len];exact this)];exact Nat.two_pow_pos _
 | some p=>have h1:=(h.fam.at_ i p hp).fit;rw[h.fam.room p (mG hp)]at h1;exact h1
theorem comesTo_take{g:Gz}{T:List (List (Nat×Bool))}:∀(N:Nat) (CC:List (List Come)),g.comesTo T N=some CC→CC.length=N∧∀k,k≤N→g.comesTo T k=some (CC.take k)
 | 0,CC,h=>by
  unfold Gz.comesTo at h;cases h
  exact⟨rfl,fun k hk=>by
       obtain rfl:k=0:=by omega
       rfl⟩
 | N+1,CC,h=>by
  have h0:=h;unfold Gz.comesTo at h;cases hq:g.comesTo T N with
  | none=>rw[hq]at h;cases h
  | some l=>
   rw[hq]at h;obtain⟨h1,h2⟩:=comesTo_take N l hq;obtain⟨x,rfl⟩:∃x,CC=l++[x]:=by
    simp only at h;split at h
    ·cases h;exact⟨_,rfl⟩
    ·split at h
     ·cases h
     ·cases h;exact⟨_,rfl⟩
   refine⟨by simp[h1],fun k hk=>?_⟩;by_cases hkn:k=N+1
   ·subst hkn
    rw[tkL (by simp[h1])];exact h0
   ·rw[List.take_append_of_le_length (by omega)]
    exact h2 k (by omega)
theorem comesTo_at{g:Gz}{T:List (List (Nat×Bool))}{N s:Nat}{CC:List (List Come)}(h:g.comesTo T N=some CC)(h1:g.nt<s)(h2:s<N):g.comesK T s=some (CC.getD s []):=by
 obtain⟨h3,h4⟩:=comesTo_take N CC h;have h5:=h4 (s+1) (by omega);unfold Gz.comesTo at h5;rw[h4 s (by omega)]at h5;simp only at h5;rw[if_neg (by omega)]at h5;cases hq:g.comesK T s with
 | none=>rw[hq]at h5;cases h5
 | some r=>rw[hq]at h5;have h6:=congrArg (fun l=>l[s]?) (Option.some.inj h5);rw[List.getElem?_append_right (by simp;omega),List.getElem?_take_of_lt (by omega),List.length_take]at h6;rw[show s-min s CC.length=0 by omega]at h6;rw[dG,←h6];rfl
theorem comesTo_low{g:Gz}{T:List (List (Nat×Bool))}{N s:Nat}{CC:List (List Come)}(h:g.comesTo T N=some CC)(h1:s≤g.nt):CC.getD s []=[]:=by
 obtain⟨h3,h4⟩:=comesTo_take N CC h;rw[dG];by_cases h2:s<N
 ·have h5:=h4 (s+1) (by omega)
  unfold Gz.comesTo at h5;rw[h4 s (by omega)]at h5;simp only at h5;rw[if_pos h1]at h5;have h6:=congrArg (fun l=>l[s]?) (Option.some.inj h5);rw[List.getElem?_append_right (by simp;omega),List.getElem?_take_of_lt (by omega),List.length_take]at h6;rw[show s-min s CC.length=0 by omega]at h6;rw[←h6];rfl
 ·rw[nG (by omega)]
  rfl
theorem CmA.nil_(A:Nat→Prop)(w:World)(m:Nat):CmA A w m (.slice none 0 0) []:=⟨none,0,rfl,leR _,by simp,fun k hk=>by simp at hk⟩
def PrepEnd(w0 w:World)(mb:Nat)(v lv bv av ev fv:Value)(g:Gz)(T:List (List (Nat×Bool)))(CC:List (List Come))(e:Ending)(w':World):Prop:=
 e=.returned (.tuple #[])∧Below w0.heap.size w0 w'∧w.heap.size≤w'.heap.size∧Chg (·=mb) w w'∧∃rv tlv uv cv,Blk w' mb 192 (MkA v lv rv tlv uv cv bv av ev fv) ∧
  RtsA (Stl w0 w w') w' rv (g.R.length+1) g.right∧TlsA (Stl w0 w w') w' (g.nt+1) tlv (g.R.length+1) T∧RtsA (Stl w0 w w') w' uv (g.top+1) g.ofL∧CmsA (Stl w0 w w') w' (g.nt+1) cv (g.top+1) CC
set_option maxHeartbeats 16000000 in
theorem lprep_any{w0 w:World}{mb:Nat}{v lv uv0 cv0 bv av ev fv:Value}{g:Gz}{f E:Nat}{C:List Nat}{T:List (List (Nat×Bool))}{CC:List (List Come)}(hgn:GN w0 v g)(hb0:Below w0.heap.size w0 w)(hmb:w0.heap.size≤mb)(hblk:Blk w mb 192 (MkA v lv (.slice none 0 0) (.slice none 0 0) uv0 cv0 bv av ev fv))(hf:firstOf g f=some (E,C))(hTT:T=(List.range (g.R.length+1)).map (g.tailsK E C))(hcc:g.comesTo T (g.top+1)=some CC) :
  Calls Tryz.prog 111 #[.pointer (some ⟨mb,0,none⟩)] w (PrepEnd w0 w mb v lv bv av ev fv g T CC):=by
 have hfit:=hgn.fit;have hnn:=hfit.nn;have hnt:=hfit.nt;have hnr:=hfit.nr;obtain⟨N,hN⟩:∃N,N=g.top+1:=⟨_,rfl⟩
 have hN1:N≤1000:=by unfold Gz.top at hN;omega
 have htop:g.top≤1000:=by omega
 have hi1:IntKind.i64.wrap ((g.top:Int)+1)=(g.top:Int)+1:=by rw[IntKind.wrap_i64];omega
 have hmk:=fun y=>make_of (P:=Tryz.prog) (t:=24) (e:=44) (z:=.slice none 0 0) (bytes:=24) Tryz.underlying24 (by kernel_rfl) rfl (l:=((g.top:Nat):Int)+1) (n:=N) (by omega) (by omega) (by omega) y
 have hmk2:=fun y=>make_of (P:=Tryz.prog) (t:=188) (e:=236) (z:=.slice none 0 0) (bytes:=24) Tryz.underlying188 (by kernel_rfl) rfl (l:=((g.top:Nat):Int)+1) (n:=N) (by omega) (by omega) (by omega) y
 have HT:=Hd (fun y (hy:Below w0.heap.size w0 y)=>topN_any (hgn.later hy));have HFO:Hid (∀y,Below w0.heap.size w0 y→Calls Tryz.prog 150 #[v] y fun e w'=>∃F:Fs,e=.returned (.pointer (some ⟨F.q,0,none⟩))∧FStat w0 w' F g E C∧Below y.heap.size y w'):=Hd (fun y hy=>by refine(fof_any (hgn.later hy) hf).mono ?_;rintro e w' ⟨F,rfl,hF⟩;exact⟨F,rfl,hF.far hy,hF.below⟩)
 have HRL:=Hd (fun y (hy:Below w0.heap.size w0 y) (k:Nat) (hk:k≤g.R.length)=>ruleX_any hgn hy hk);have HCO:=Hd (fun y (hy:Below w0.heap.size w0 y)=>hgn.later hy);have HFIT:=Hd hfit;have HTT:=Hd hTT;have HCC:=Hd hcc;obtain⟨AT,cT,AN,cN,AR,cR,rfl,hc,hcR⟩:=hgn.open_;have HBLK:=Hd hblk;have HB0:=Hd hb0;have HN:=Hd hN;have HMB:=Hd hmb;have y0:w.cell? ⟨mb,0,none⟩=some (.slice AT g.nt cT):=Blk.cell hblk 0;have y1:w.cell? ⟨mb,1,none⟩=some (.slice AN g.nn cN):=Blk.cell hblk 1;have y2:w.cell? ⟨mb,2,none⟩=some (.slice AR g.R.length cR):=Blk.cell hblk 2;have y3:w.cell? ⟨mb,3,none⟩=some (.int .i64 g.s):=Blk.cell hblk 3
 have l0:=hblk.lt;have HL0:=Hd l0;clear hgn hb0 hblk hf hcc hc hcR hfit hnn hN hmb hTT;go_enter Tryz.func111,Tryz.ntmps111
 go_wp2_with (first
  | (
    go_at_call 150;refine(HFO.out _ HB0.out).mono ?_;rintro e w1 ⟨F,rfl,hF,hb1⟩
    have HF:=Hd hF;have HB1:=Hd hb1;have b1:=HBLK.out.below hb1 HL0.out;have HBLK1:=Hd b1;have z0:w1.cell? ⟨mb,0,none⟩=some (.slice AT g.nt cT):=Blk.cell b1 0;have z1:w1.cell? ⟨mb,1,none⟩=some (.slice AN g.nn cN):=Blk.cell b1 1;have z2:w1.cell? ⟨mb,2,none⟩=some (.slice AR g.R.length cR):=Blk.cell b1 2;have z3:w1.cell? ⟨mb,3,none⟩=some (.int .i64 g.s):=Blk.cell b1 3;have l1:=Blk.lt b1;have HBW1:=Hd (HB0.out.trans (hb1.mono HB0.out.size));clear b1 hF hb1)
  | (
    go_at_call 38;refine(HT.out _ HBW1.out).mono ?_;rintro e w2 ⟨rfl,hb2⟩
    have HB2:=Hd (HB1.out.trans (hb2.mono HB1.out.size));have HF2:=Hd (HF.out.later hb2);have b2:=HBLK1.out.below hb2 (Blk.lt HBLK1.out);have HBLK2:=Hd b2;have f7:=Blk.frozen b2 7;have x7:w2.cell? ⟨mb,7,none⟩=some uv0:=Blk.cell b2 7;have x2:w2.cell? ⟨mb,2,none⟩=some (.slice AR g.R.length cR):=Blk.cell b2 2;have l2:=Blk.lt b2;clear b2 hb2))
 have HM0:Hid (Mps w0 w ((w2.setCell ⟨mb,7,none⟩ (.slice (some ⟨w2.heap.size,0,none⟩) N N)).alloc (.cells (Array.replicate N (.slice none 0 0)) 44)) F g E C (.slice none 0 0) (.slice none 0 0) w2.heap.size N 0 [] [] (List.replicate N (.slice none 0 0,[])) []∧Blk ((w2.setCell ⟨mb,7,none⟩ (.slice (some ⟨w2.heap.size,0,none⟩) N N)).alloc (.cells (Array.replicate N (.slice none 0 0)) 44)) mb 192 (MkA (.agg #[.slice AT g.nt cT,.slice AN g.nn cN,.slice AR g.R.length cR,.int .i64 g.s]) lv (.slice none 0 0) (.slice none 0 0) (.slice (some ⟨w2.heap.size,0,none⟩) N N) cv0 bv av ev fv)∧Chg (·=mb) w ((w2.setCell ⟨mb,7,none⟩ (.slice (some ⟨w2.heap.size,0,none⟩) N N)).alloc (.cells (Array.replicate N (.slice none 0 0)) 44))):=Hd (by
  have hs:=HB2.out.size;have hs0:=HB0.out.size;have hsz:(w2.setCell ⟨mb,7,none⟩ (.slice (some ⟨w2.heap.size,0,none⟩) N N)).heap.size=w2.heap.size:=by simp[World.setCell]
  have hc:Chg (·=mb) w2 (w2.setCell ⟨mb,7,none⟩ (.slice (some ⟨w2.heap.size,0,none⟩) N N)):=Chg.set (X:=(·=mb)) (Chg.refl _ w2) (p:=⟨mb,7,none⟩) (.inr rfl) _;have hbw:=(HB0.out.trans (HB2.out.mono hs0))
  have hF3:=HF2.out.chgT hc (fun b hb=>by subst hb;exact⟨HMB.out,_,_,HBLK2.out,by decide,by decide,by decide,by decide⟩);have hF4:=hF3.later (below_alloc1 (w2.setCell ⟨mb,7,none⟩ (.slice (some ⟨w2.heap.size,0,none⟩) N N)) (.cells (Array.replicate N (.slice none 0 0)) 44));have hfam:=NFam.fresh (w2.setCell ⟨mb,7,none⟩ (.slice (some ⟨w2.heap.size,0,none⟩) N N)) (B:=w.heap.size) (n:=N) (by rw[hsz];exact hs) (by omega);rw[hsz]at hfam;refine⟨⟨⟨hF4.below,by simp[hsz];omega,hs0,hF4,(fun i x hx=>by simp at hx),(fun i x hx=>by simp at hx)⟩,⟨rfl,.inl ⟨rfl,rfl⟩⟩,by rw[←HN.out];exact hfam,?_,⟨rfl,.inl ⟨rfl,rfl⟩⟩,by simp[Value.ownBlock]⟩,(HBLK2.out.set_ 7 (.slice (some ⟨w2.heap.size,0,none⟩) N N)).alloc _,((Chg.of_below HB2.out).next hc).alloc _⟩
  rw[List.map_replicate,←HN.out];apply List.ext_getElem?;intro i;rw[pG];by_cases hi:i<N
  ·rw[List.getElem?_range hi,List.getElem?_replicate,if_pos hi];rfl
  ·rw[nG (by simp;omega),nG (by simp;omega)];rfl)
 generalize (w2.setCell ⟨mb,7,none⟩ (.slice (some ⟨w2.heap.size,0,none⟩) N N)).alloc (.cells (Array.replicate N (.slice none 0 0)) 44)=W0 at *;generalize w2.heap.size=ub at *;clear f7 x7 x2 l2 y0 y1 y2 y3 z0 z1 z2 z3 l1 hmk;go_loopg [33] (g.R.length+1) (fun n ii wr=>∃(k:Nat) (rv tlv:Value) (RV TV:List Value) (R:List (Value×List Nat)),Hid (n+k=g.R.length+1)∧k≤g.R.length+1∧ii=.int .i64 k∧Hid (RV.length=k∧TV.length=k)∧Hid (Mps w0 w wr F g E C rv tlv ub N (min k g.R.length) RV TV R ((List.range k).map (g.tailsK E C)))∧Hid (Blk wr mb 192 (MkA (.agg #[.slice AT g.nt cT,.slice AN g.nn cN,.slice AR g.R.length cR,.int .i64 g.s]) lv rv tlv (.slice (some ⟨ub,0,none⟩) N N) cv0 bv av ev fv))∧Hid (Chg (·=mb) w wr))
 case atStart=>exact⟨0,_,_,[],[],_,Hd rfl,by omega,rfl,Hd ⟨rfl,rfl⟩,Hd (by simpa using HM0.out.1),Hd HM0.out.2.1,Hd HM0.out.2.2⟩
 case round=>
  obtain⟨k,rv,tlv,RV,TV,R,HNK,hk,rfl,HRT,HM,HBK,HCH⟩:=hrel;rename World=>w9
  have HB9:=Hd HM.out.fine.below;have z0:w9.cell? ⟨mb,0,none⟩=some (.slice AT g.nt cT):=Blk.cell HBK.out 0;have z1:w9.cell? ⟨mb,1,none⟩=some (.slice AN g.nn cN):=Blk.cell HBK.out 1;have z2:w9.cell? ⟨mb,2,none⟩=some (.slice AR g.R.length cR):=Blk.cell HBK.out 2;have z3:w9.cell? ⟨mb,3,none⟩=some (.int .i64 g.s):=Blk.cell HBK.out 3;by_cases hlt:k<g.R.length+1
  ·have HRX:=Hd (HRL.out w9 HB9.out k (by omega))
   have hlti:(k:Int)<(g.R.length:Int)+1:=by omega
   obtain⟨Ar,cr,hrv⟩:=own_shape2 HM.out.rrow;obtain⟨At,ct,htv⟩:=own_shape2 HM.out.trow;rw[HRT.out.1]at hrv;rw[HRT.out.2]at htv;subst hrv;subst htv;obtain⟨left,hleft⟩:∃l,(g.rule k).1=l:=⟨_,rfl⟩
   unfold RuleEndX at HRX;rw[hleft]at HRX;have HLE:=Hd hleft;clear hleft;go_upto_region 6 with(
                  go_at_call 26;refine HRX.out.mono ?_;rintro e w2 ⟨xv,rfl,hn,hb,h0,h1⟩
                  obtain⟨⟨Ax,cx,hxv,-⟩,-,-⟩:=id hn;subst hxv;have HNX:=Hd hn;have HX0:=Hd h0;have HX1:=Hd h1;have HB2:=Hd hb;clear hn h0 h1 hb)
   have hsW:w2.heap.size≤(w2.alloc (.cells #[.int .i64 left,.slice Ax (g.right k).length cx] 65)).heap.size:=by simp
   have HRB:Hid (Blk (w2.alloc (.cells #[.int .i64 left,.slice Ax (g.right k).length cx] 65)) w2.heap.size 65 #[.int .i64 left,.slice Ax (g.right k).length cx]):=Hd (Blk.new w2 65 _);have HBW:Hid (Below w9.heap.size w9 (w2.alloc (.cells #[.int .i64 left,.slice Ax (g.right k).length cx] 65))):=Hd (HB2.out.alloc HB2.out.size _);have HNW:Hid (Nums (w2.alloc (.cells #[.int .i64 left,.slice Ax (g.right k).length cx] 65)) (.slice Ax (g.right k).length cx) (g.right k)):=Hd (HNX.out.later (below_alloc w2 _));have HXW:Hid (k=g.R.length→∃b,(.slice Ax (g.right k).length cx:Value)=.slice (some ⟨b,0,none⟩) 1 1∧w9.heap.size≤b∧∃cs,Blk (w2.alloc (.cells #[.int .i64 left,.slice Ax (g.right k).length cx] 65)) b 3 cs):=Hd (fun e=>by obtain⟨b,h1,h2,cs,h3⟩:=HX1.out e;exact⟨b,h1,h2,cs,h3.alloc _⟩)
   generalize w2.alloc (.cells #[.int .i64 left,.slice Ax (g.right k).length cx] 65)=W at *;generalize w2.heap.size=rb at *;have HMW:=Hd (HM.out.later HBW.out);have HBKW:=Hd (HBK.out.below HBW.out HBK.out.lt);have HCW:=Hd (HCH.out.next (Chg.of_below HBW.out));clear hsW z0 z1 z2 z3 HB2 HNX HX1;have r0:W.cell? ⟨rb,0,none⟩=some (.int .i64 left):=Blk.cell HRB.out 0;have r1:W.cell? ⟨rb,1,none⟩=some (.slice Ax (g.right k).length cx):=Blk.cell HRB.out 1;have rl:=HRB.out.lt;have z5:W.cell? ⟨mb,5,none⟩=some (.slice Ar k cr):=Blk.cell HBKW.out 5;have ml:=HBKW.out.lt
   go_cut [] (fun wx=>∃(A6:Option Addr) (c6:Nat),Hid (Mps w0 w wx F g E C (.slice A6 (k+1) c6) (.slice At k ct) ub N (min k g.R.length) (RV++[.slice Ax (g.right k).length cx]) TV R ((List.range k).map (g.tailsK E C)))∧Hid (Blk wx mb 192 (MkA (.agg #[.slice AT g.nt cT,.slice AN g.nn cN,.slice AR g.R.length cR,.int .i64 g.s]) lv (.slice A6 (k+1) c6) (.slice At k ct) (.slice (some ⟨ub,0,none⟩) N N) cv0 bv av ev fv))∧Hid (Chg (·=mb) w wx)∧Hid (Blk wx rb 65 #[.int .i64 left,.slice Ax (g.right k).length cx]))
   case first=>
     have HKEY:Hid (∀(Y w6:World) (A6:Option Addr) (c6:Nat),Below W.heap.size W Y→w6.ownsRow w.heap.size 44 1 (.slice A6 (k+1) c6) (k+1) (RV++[.slice Ax (g.right k).length cx])→Keeps w.heap.size [44] Y w6→(Y.grownBy w6 (Value.slice Ar k cr).ownBlock∧((Value.slice A6 (k+1) c6).ownBlock=(Value.slice Ar k cr).ownBlock∨(Value.slice A6 (k+1) c6).ownBlock=some Y.heap.size)) →
       Hid (Mps w0 w (w6.setCell ⟨mb,5,none⟩ (.slice A6 (k+1) c6)) F g E C (.slice A6 (k+1) c6) (.slice At k ct) ub N (min k g.R.length) (RV++[.slice Ax (g.right k).length cx]) TV R ((List.range k).map (g.tailsK E C)))∧Hid (Blk (w6.setCell ⟨mb,5,none⟩ (.slice A6 (k+1) c6)) mb 192 (MkA (.agg #[.slice AT g.nt cT,.slice AN g.nn cN,.slice AR g.R.length cR,.int .i64 g.s]) lv (.slice A6 (k+1) c6) (.slice At k ct) (.slice (some ⟨ub,0,none⟩) N N) cv0 bv av ev fv))∧Hid (Chg (·=mb) w (w6.setCell ⟨mb,5,none⟩ (.slice A6 (k+1) c6)))∧Hid (Blk (w6.setCell ⟨mb,5,none⟩ (.slice A6 (k+1) c6)) rb 65 #[.int .i64 left,.slice Ax (g.right k).length cx])):=Hd (fun Y w6 A6 c6 hy q1 q2 q3=>by
      have hl:=HRT.out.1;have hY:=HMW.out.later hy;have hb6:=q2.blk (HBKW.out.below hy HBKW.out.lt) (.inr (by decide));have hr6:=q2.blk (HRB.out.below hy HRB.out.lt) (.inr (by decide));have hM:=hY.righted (x:=.slice Ax (g.right k).length cx) (A:=A6) (c:=c6) (by omega) (by rw[hl];exact q1) (by rw[hl];exact q3) (by rw[hl];exact HNW.out.later hy) (by rw[hl];exact HX0.out) (by rw[hl];intro e;obtain⟨b,h1,h2,cs,h3⟩:=HXW.out e;exact⟨b,h1,leT HM.out.fine.size h2,cs,h3.below hy h3.lt⟩)
      rw[hl]at hM;have hne:rb≠mb:=Blk.ne_ hr6 hb6 (by decide);refine⟨Hd (hM.far hb6 HMB.out 5 _),Hd (hb6.set_ 5 _),Hd ((HCW.out.next (Chg.of_below hy)).trans (Y:=fun b=>b=mb∨w.heap.size≤b) ((q2.chg.mono fun b hb=>.inr hb).next (Chg.set (X:=fun b=>b=mb∨w.heap.size≤b) (Chg.refl _ w6) (p:=⟨mb,5,none⟩) (.inr (.inl rfl)) _)) (fun i hi hx=>hx.resolve_right (by omega))),Hd (hr6.far (p:=⟨mb,5,none⟩) hne _)⟩)
     have HROW:Hid (W.ownsRow w.heap.size 44 1 (.slice Ar k cr) k RV):=Hd (by have h:=HMW.out.rrow;rw[HRT.out.1]at h;exact h);go_region_law (
               refine step_app ElIntsQ (.tmp 49) (.tmp 52) ?_ ?_ (base:=w.heap.size) (n:=k) (m:=1) (N:=k+1) (v:=.slice Ar k cr) (src:=.slice (some ⟨W.heap.size,0,none⟩) 1 1) (xs:=RV) (news:=[.slice Ax (g.right k).length cx]) ?_ ?_ ?_ ?_ ?_ ?_ ?_ ?_ ?_
               ·rfl
               ·rfl
               ·rfl
               ·rfl
               ·first|exact(own_below HROW.out ((Below.refl _ W).drew)).alloc _|exact own_below (HROW.out.alloc _) ((Below.refl _ _).drew)
               ·first|exact SrcOK.blk (c:=1) (cs:=[.slice Ax (g.right k).length cx]) (Blk.new W.drew 44 _) rfl (by simp[Value.oneCell'])|exact SrcOK.blk (c:=1) (cs:=[.slice Ax (g.right k).length cx]) (Blk.drew (Blk.new W 44 _)) rfl (by simp[Value.oneCell'])
               ·rfl
               ·unfold maxLen;omega
               ·omega
               ·have:=HMW.out.fine.size;simp;omega
               intro A6 c6 w6 q1 q2 q3;have HQ1:=Hd q1;have HQ2:=Hd q2;have HQ3:=Hd q3;have HB6:Hid (Blk w6 mb 192 (MkA (.agg #[.slice AT g.nt cT,.slice AN g.nn cN,.slice AR g.R.length cR,.int .i64 g.s]) lv (.slice Ar k cr) (.slice At k ct) (.slice (some ⟨ub,0,none⟩) N N) cv0 bv av ev fv)):=Hd (by first|exact q2.blk (HBKW.out.drew.alloc _) (.inr (by decide))|exact q2.blk (Blk.drew (HBKW.out.alloc _)) (.inr (by decide)));have c6_:w6.cell? ⟨mb,5,none⟩=some (.slice Ar k cr):=Blk.cell HB6.out 5;have f6_:=Blk.frozen HB6.out 5;have l6_:=HB6.out.lt;clear q1 q2 q3)
     all_goals go_wp2_with fail
     all_goals go_meet
     all_goals first
      | exact⟨A6,c6,HKEY.out _ _ _ _ (((Below.refl _ W).drew).alloc (leR _) _) HQ1.out HQ2.out HQ3.out⟩
      | exact⟨A6,c6,HKEY.out _ _ _ _ (((Below.refl _ W).alloc (leR _) _).drew) HQ1.out HQ2.out HQ3.out⟩
   case rest=>
     obtain⟨A6,c6,HM6,HBK6,HC6,HRB6⟩:=hcut;rename World=>w6
     clear r0 r1 z5;have r0:w6.cell? ⟨rb,0,none⟩=some (.int .i64 left):=Blk.cell HRB6.out 0;have r1:w6.cell? ⟨rb,1,none⟩=some (.slice Ax (g.right k).length cx):=Blk.cell HRB6.out 1;have z2:w6.cell? ⟨mb,2,none⟩=some (.slice AR g.R.length cR):=Blk.cell HBK6.out 2;have z7:w6.cell? ⟨mb,7,none⟩=some (.slice (some ⟨ub,0,none⟩) N N):=Blk.cell HBK6.out 7;have rl6:=HRB6.out.lt;have ml6:=HBK6.out.lt;have hleft:k<g.R.length→(g.R.getD k (0,[])).1=left∧left≤g.top:=fun h=>by have h1:=HLE.out;unfold Gz.rule at h1;rw[if_neg (by omega)]at h1;refine⟨h1,?_⟩;have h2:=HFIT.out.left (g.R.getD k (0,[])) (by rw[dG,eG h];exact List.getElem_mem h);omega
     have HLEF:=Hd hleft;clear hleft
     go_upto_if 63 with fail
     go_cut [] (fun wx=>∃(R2:List (Value×List Nat)),Hid (Mps w0 w wx F g E C (.slice A6 (k+1) c6) (.slice At k ct) ub N (min (k+1) g.R.length) (RV++[.slice Ax (g.right k).length cx]) TV R2 ((List.range k).map (g.tailsK E C)))∧Hid (Blk wx mb 192 (MkA (.agg #[.slice AT g.nt cT,.slice AN g.nn cN,.slice AR g.R.length cR,.int .i64 g.s]) lv (.slice A6 (k+1) c6) (.slice At k ct) (.slice (some ⟨ub,0,none⟩) N N) cv0 bv av ev fv))∧Hid (Chg (·=mb) w wx)∧Hid (Blk wx rb 65 #[.int .i64 left,.slice Ax (g.right k).length cx]))
     case first=>
      by_cases hlt2:k<g.R.length
      ·have hki:(k:Int)<(g.R.length:Int):=by omega
       obtain⟨hl1,hl2⟩:=HLEF.out hlt2;have hfl:=HM6.out.fam.len;obtain⟨⟨xv,xl⟩,hx⟩:∃x,R[left]?=some x:=⟨_,eG (by omega)⟩
       obtain⟨Au,cu,hxs⟩:=own_shape2 (HM6.out.fam.own left _ hx);simp only at hxs;subst hxs;have hrow:=HM6.out.fam.row;rw[←HN.out]at hrow;have hub:=own_cell hrow left (by rw[HN.out];omega);rw[pG,hx]at hub;simp only[Option.map_some]at hub;have fub:=own_frozen hrow left;have hubl:=(own_lt hrow ub rfl).1;have HROW:Hid (w6.ownsRow w.heap.size 3 1 (.slice Au xl.length cu) xl.length (xl.map NatV)):=Hd (HM6.out.fam.own left _ hx);have hxl:xl.length≤1000:=by
        have h3:(R.map (·.2))[left]?=some xl:=by rw[pG,hx];rfl
        rw[HM6.out.lists,pG]at h3;obtain⟨j,hj,e⟩:=Option.map_eq_some_iff.1 h3;rw[←e];have:=ofK_len g (min k g.R.length) j;omega
       have hlN:(left:Int)<(N:Int):=by have:=HN.out;omega
       have HX:=Hd hx;have HXL:=Hd hl1;have hRVl:(RV++[(.slice Ax (g.right k).length cx:Value)]).length=k+1:=by have:=HRT.out.1;simp;omega
       have hmk1:min k g.R.length=k:=by omega
       have hmk3:min (k+1) g.R.length=k+1:=by omega
       have HMK:=Hd (And.intro hRVl (And.intro hmk1 hmk3));have HKEY:Hid (∀(Y w7:World) (A7:Option Addr) (c7:Nat),Below w6.heap.size w6 Y→w7.ownsRow w.heap.size 3 1 (.slice A7 (xl.length+1) c7) (xl.length+1) (xl.map NatV++[.int .i64 (k:Nat)])→Keeps w.heap.size [3] Y w7→(Y.grownBy w7 (Value.slice Au xl.length cu).ownBlock∧((Value.slice A7 (xl.length+1) c7).ownBlock=(Value.slice Au xl.length cu).ownBlock∨(Value.slice A7 (xl.length+1) c7).ownBlock=some Y.heap.size)) →
          ∃R2,Hid (Mps w0 w (w7.setCell ⟨ub,left,none⟩ (.slice A7 (xl.length+1) c7)) F g E C (.slice A6 (k+1) c6) (.slice At k ct) ub N (min (k+1) g.R.length) (RV++[.slice Ax (g.right k).length cx]) TV R2 ((List.range k).map (g.tailsK E C)))∧Hid (Blk (w7.setCell ⟨ub,left,none⟩ (.slice A7 (xl.length+1) c7)) mb 192 (MkA (.agg #[.slice AT g.nt cT,.slice AN g.nn cN,.slice AR g.R.length cR,.int .i64 g.s]) lv (.slice A6 (k+1) c6) (.slice At k ct) (.slice (some ⟨ub,0,none⟩) N N) cv0 bv av ev fv))∧Hid (Chg (·=mb) w (w7.setCell ⟨ub,left,none⟩ (.slice A7 (xl.length+1) c7)))∧Hid (Blk (w7.setCell ⟨ub,left,none⟩ (.slice A7 (xl.length+1) c7)) rb 65 #[.int .i64 left,.slice Ax (g.right k).length cx])):=Hd (fun Y w7 A7 c7 hy q1 q2 q3=>by
        have hM:=HM6.out;rw[hmk1]at hM;obtain⟨R2,hR2⟩:=hM.ruled (by omega) HX.out HXL.out (nv:=.slice A7 (xl.length+1) c7) hy q1 q2 q3;have hb7:=q2.blk (HBK6.out.below hy HBK6.out.lt) (.inr (by decide));have hr7:=q2.blk (HRB6.out.below hy HRB6.out.lt) (.inr (by decide));obtain⟨cur,hcur⟩:=(HM6.out.fam.later hy).blk;have hc7:=q2.blk hcur (.inr (by decide));have hub0:w.heap.size≤ub:=(own_lt hrow ub rfl).2;rw[hmk3];refine⟨R2,Hd hR2,Hd (hb7.far (p:=⟨ub,left,none⟩) (Blk.ne_ hb7 hc7 (by decide)) _),Hd ((HC6.out.next (Chg.of_below hy)).trans (Y:=fun b=>w.heap.size≤b) (q2.chg.next (Chg.set (X:=fun b=>w.heap.size≤b) (Chg.refl _ w7) (p:=⟨ub,left,none⟩) (.inr hub0) _)) (fun i hi hx=>by omega)),Hd (hr7.far (p:=⟨ub,left,none⟩) (Blk.ne_ hr7 hc7 (by decide)) _)⟩)
       have HSB:Hid (∀Y,Below w6.heap.size w6 Y→Y.cell? ⟨mb,7,none⟩=some (.slice (some ⟨ub,0,none⟩) N N)∧Y.cell? ⟨rb,0,none⟩=some (.int .i64 left)∧Y.cell? ⟨ub,left,none⟩=some (.slice Au xl.length cu)):=Hd (fun Y hy=>⟨(hy.cell (p:=⟨mb,7,none⟩) ml6).trans z7,(hy.cell (p:=⟨rb,0,none⟩) rl6).trans r0,(hy.cell (p:=⟨ub,left,none⟩) hubl).trans hub⟩);clear hx hrow hl1 hRVl hmk1 hmk3 hfl;go_upto_region 8 with fail
       refine wp_regionK 18 (fun v:World=>v.cell? ⟨mb,7,none⟩=some (.slice (some ⟨ub,0,none⟩) N N)∧v.cell? ⟨rb,0,none⟩=some (.int .i64 left)∧v.cell? ⟨ub,left,none⟩=some (.slice Au xl.length cu)) (by kernel_rfl) ?_;have hHeld:(fun v:World=>v.cell? ⟨mb,7,none⟩=some (.slice (some ⟨ub,0,none⟩) N N)∧v.cell? ⟨rb,0,none⟩=some (.int .i64 left)∧v.cell? ⟨ub,left,none⟩=some (.slice Au xl.length cu)) w6.drew:=⟨z7,r0,hub⟩
       refine takeQ 0 hHeld ?_;simp only[setS,setZ];refine takeQ 1 hHeld ?_;simp only[setS,setZ];refine takeQ 2 hHeld ?_;simp only[setS,setZ];refine takeQ 3 hHeld ?_;simp only[setS,setZ];refine takeQ 4 hHeld ?_;simp only[setS,setZ];refine takeQ 5 hHeld ?_;simp only[setS,setZ];refine takeQ 6 hHeld ?_;simp only[setS,setZ];refine takeQ 7 hHeld ?_;simp only[setS,setZ];refine takeQ 8 hHeld ?_;simp only[setS,setZ];refine takeQ 9 hHeld ?_;simp only[setS,setZ];refine takeQ 10 hHeld ?_;simp only[setS,setZ];refine takeQ 11 hHeld ?_;simp only[setS,setZ];refine takeQ 12 hHeld ?_;simp only[setS,setZ];refine takeQ 13 hHeld ?_;simp only[setS,setZ]
       refine takeQ 14 hHeld ?_;simp only[setS,setZ];refine nextK 15 (by kernel_rfl) rfl rfl (fun K hK=>?_);go_simp;refine hK.out _ _ (fun _=>?_) ?_
       ·exact HSB.out _ (((Below.refl _ w6).alloc (leR _) _).drew)
       clear hK K hHeld;refine nextKv 16 (by kernel_rfl) rfl rfl rfl (fun K hK=>?_);refine wp_app ElIntQ (.tmp 77) (.tmp 79) rfl (base:=w.heap.size) (n:=xl.length) (m:=1) (N:=xl.length+1) (v:=.slice Au xl.length cu) (src:=.slice (some ⟨w6.heap.size,0,none⟩) 1 1) (xs:=xl.map NatV) (news:=[.int .i64 (k:Nat)]) rfl rfl (own_below (HROW.out.alloc _) ((Below.refl _ _).drew)) (SrcOK.blk (c:=1) (cs:=[.int .i64 (k:Nat)]) (Blk.drew (Blk.new w6 3 _)) rfl (by simp[Value.oneCell'])) rfl (by unfold maxLen;omega) (by omega) (by have:=HM6.out.fine.size;simp;omega) ?_;intro A7 c7 w7 q1 q2 q3;have HO7:Hid (w7.ownsRow w.heap.size 44 1 (.slice (some ⟨ub,0,none⟩) N N) N (R.map (·.1))):=Hd (by have hrow:=HM6.out.fam.row;rw[←HN.out]at hrow;exact q2.own (own_below (hrow.alloc _) ((Below.refl _ _).drew)) (.inr (by decide)))
       have hub_:w7.cell? ⟨ub,left,none⟩=some (.slice Au xl.length cu):=by rw[own_cell HO7.out left (by omega),pG,HX.out];rfl
       have fub_:=own_frozen HO7.out left;have lub_:=(own_lt HO7.out ub rfl).1;have HR7:Hid (Blk w7 rb 65 #[.int .i64 left,.slice Ax (g.right k).length cx]):=Hd (q2.blk (Blk.drew (HRB6.out.alloc _)) (.inr (by decide)));have HM7:Hid (Blk w7 mb 192 (MkA (.agg #[.slice AT g.nt cT,.slice AN g.nn cN,.slice AR g.R.length cR,.int .i64 g.s]) lv (.slice A6 (k+1) c6) (.slice At k ct) (.slice (some ⟨ub,0,none⟩) N N) cv0 bv av ev fv)):=Hd (q2.blk (Blk.drew (HBK6.out.alloc _)) (.inr (by decide)));have r0_:w7.cell? ⟨rb,0,none⟩=some (.int .i64 left):=Blk.cell HR7.out 0;have z7_:w7.cell? ⟨mb,7,none⟩=some (.slice (some ⟨ub,0,none⟩) N N):=Blk.cell HM7.out 7
       have HFIN:=Hd (HKEY.out _ w7 A7 c7 (((Below.refl _ w6).alloc (leR _) _).drew) q1 q2 q3);clear q1 q2 q3;refine hK.out _ _ (fun _=>⟨z7_,r0_,hub_⟩) ?_;clear hK K;simp only[List.set_cons_succ,List.set_cons_zero];have hHeld:(fun(v:World)=>v.cell? ⟨mb,7,none⟩=some (.slice (some ⟨ub,0,none⟩) N N)∧v.cell? ⟨rb,0,none⟩=some (.int .i64 left)∧v.cell? ⟨ub,left,none⟩=some (.slice Au xl.length cu)) w7:=⟨z7_,r0_,hub_⟩
       refine takeQ 17 hHeld ?_;simp only[setS,setZ];clear hHeld;refine nextK 18 (by kernel_rfl) rfl rfl (fun K hK=>?_);go_simp;refine hK.out _ _ (fun h=>absurd rfl h) ?_;clear hK K;refine doneK (by kernel_rfl) ?_ _;go_wp2_with fail
       go_meet
       exact HFIN.out
      ·have hki:¬((k:Int)<(g.R.length:Int)):=by omega
       have hmk1:min k g.R.length=min (k+1) g.R.length:=by omega
       have HM62:=HM6;rw[hmk1]at HM62;clear hmk1;go_wp2_with fail
       go_meet
       exact⟨R,HM62,HBK6,HC6,HRB6⟩
     case rest=>
      obtain⟨R2,HM7,HBK7,HC7,HRB7⟩:=hcut;rename World=>w7
      clear r0 r1 z2 z7 HM HBK HCH HRB HBW HNW HXW HMW HBKW HCW HM6 HBK6 HC6 HRB6 HRX HB9 HLEF rl rl6 ml ml6 hlti;have r1:w7.cell? ⟨rb,1,none⟩=some (.slice Ax (g.right k).length cx):=Blk.cell HRB7.out 1;have rl7:=HRB7.out.lt;have HNX:Hid (Nums w7 (.slice Ax (g.right k).length cx) (g.right k)):=Hd (by have h:=HM7.out.fine.rts k (.slice Ax (g.right k).length cx) (by rw[List.getElem?_append_right (by rw[HRT.out.1];omega),HRT.out.1,Nat.sub_self];rfl);exact h.1)
      obtain⟨len,hlen⟩:∃n,(g.right k).length=n:=⟨_,rfl⟩
      have hl8:len≤8:=by
       rw[←hlen];unfold Gz.right Gz.rule;split
       ·simp
       ·rw[dG]
        cases hq:g.R[k]? with
        | none=>simp
        | some r=>exact HFIT.out.short r (mG hq)
      have hlc:len≤cx:=by rw[←hlen];exact(HNX.out.room _ _ _ rfl).1
      have HXL:Hid (∀x∈g.right k,x≤g.top):=Hd (fun x hx=>HFIT.out.right_le hx);have HLN:=Hd hlen;rw[hlen]at r1 HNX HM7 HRB7;clear hlen;have HLIN:Hid (∀y,Below w7.heap.size w7 y→∀lv (l:List Nat),Nums y lv l→(∀x∈l,x≤g.top)→Calls Tryz.prog 151 #[.pointer (some ⟨F.q,0,none⟩),lv] y fun e w'=>∃A c,e=.returned (.tuple #[.slice A (bitsL (g.nt+1) (lineO E C l 0).1).length c,.bool (lineO E C l 0).2])∧Nums w' (.slice A (bitsL (g.nt+1) (lineO E C l 0).1).length c) (bitsL (g.nt+1) (lineO E C l 0).1)∧Below y.heap.size y w'):=Hd (fun y hy lv l h1 h2=>fline_any (HM7.out.fine.fst.later hy) h1 h2 hnt)
      have HSET:Hid (∀y,Below w7.heap.size w7 y→∀lv (l:List Nat),Nums y lv l→(∀x∈l,x≤g.nt)→Calls Tryz.prog 152 #[.pointer (some ⟨mb,0,none⟩),lv] y fun e w'=>∃h:SetH,e=.returned h.v∧h.n=g.nt+1∧y.heap.size≤h.h∧y.heap.size≤h.wb∧SetAt w' h (setL l)∧Below y.heap.size y w'):=Hd (fun y hy lv l h1 h2=>lset_any (w:=y) (Blk.cell (HBK7.out.below hy HBK7.out.lt) 0) hnt h1 h2);have HLT:Hid (∀l,(lineO E C l 0).1<2 ^ (g.nt+1)):=Hd (fun l=>HM7.out.fine.fst.line_lt l);go_wp2_with fail
      clear r1 rl7;go_loopg [6,85] len (fun m sv ii wr=>∃(d:Nat) (Z:List (SetH×(Nat×Bool))),Hid (m+d=len)∧d≤len∧ii=.int .i64 d∧Hid (Z.length=d)∧Hid (Tlr w7 wr (g.nt+1) sv Z)∧Hid (Z.map (·.2)=(g.tailsK E C k).take d))
      case atStart=>exact⟨0,[],Hd rfl,zeL _,rfl,Hd rfl,Hd (Tlr.start w7 _),Hd rfl⟩
      case round=>
       obtain⟨d,Z,HMD,hd,rfl,HZL,HTL,HZE⟩:=hrel;rename World=>w8
       have HB8:=Hd HTL.out.below;have HRB8:=Hd (HRB7.out.below HB8.out HRB7.out.lt);have r1:w8.cell? ⟨rb,1,none⟩=some (.slice Ax len cx):=Blk.cell HRB8.out 1;have rl8:=HRB8.out.lt;obtain⟨A5,c5,hsv⟩:=own_shape2 HTL.out.row;rw[HZL.out]at hsv;subst hsv;by_cases hlt2:d<len
       ·obtain⟨x,hx⟩:∃x,(g.right k)[d]?=some x:=⟨_,eG (by rw[HLN.out];exact hlt2)⟩
        obtain⟨b,off,rfl,hb,hcell⟩:∃b off,Ax=some ⟨b,off,none⟩∧b<w8.heap.size∧w8.cell? ⟨b,off+d,none⟩=some (.int .i64 x):=by
          obtain⟨⟨A',c',e,hc⟩,-,-⟩:=HNX.out.later HB8.out;cases e
          exact hc d x hx
        obtain⟨sa,hsa⟩:∃sa,(if cx=d+1 then some (⟨b,off,none⟩:Addr) else some ⟨b,off+(d+1),none⟩)=sa:=⟨_,rfl⟩
        obtain⟨⟨SS,ee⟩,hSS⟩:∃q,lineO E C ((g.right k).drop (d+1)) 0=q:=⟨_,rfl⟩
        have HCUT:Hid (Nums w8 (.slice sa (len-(d+1)) (cx-(d+1))) ((g.right k).drop (d+1))):=Hd (by have h:=(HNX.out.later HB8.out).cut (d+1) (by omega);rwa [hsa]at h)
        have HSF:Hid (SS<2 ^ (g.nt+1)):=Hd (by have h:=HLT.out ((g.right k).drop (d+1));rw[hSS]at h;exact h);have HL8:Hid (Calls Tryz.prog 151 #[.pointer (some ⟨F.q,0,none⟩),.slice sa (len-(d+1)) (cx-(d+1))] w8 fun e w'=>∃A c,e=.returned (.tuple #[.slice A (bitsL (g.nt+1) SS).length c,.bool ee])∧Nums w' (.slice A (bitsL (g.nt+1) SS).length c) (bitsL (g.nt+1) SS)∧Below w8.heap.size w8 w'):=Hd (by have h:=HLIN.out w8 HB8.out _ _ HCUT.out (fun z hz=>HXL.out z (List.mem_of_mem_drop hz));rw[hSS]at h;exact h)
        obtain⟨BL,hBL⟩:∃l,bitsL (g.nt+1) SS=l:=⟨_,rfl⟩
        have HBLS:Hid (setL BL=SS∧∀x∈BL,x≤g.nt):=Hd ⟨by rw[←hBL];exact setL_bits HSF.out,fun x hx=>by rw[←hBL]at hx;have:=bitsL_lt hx;omega⟩;rw[hBL]at HL8;have HTK:Hid ((g.tailsK E C k).take (d+1)=(g.tailsK E C k).take d++[(SS,ee)]):=Hd (by
          have h:(g.tailsK E C k)[d]?=some (SS,ee):=by unfold Gz.tailsK;rw[pG,List.getElem?_range (by rw[HLN.out];exact hlt2),←hSS];rfl
          rw[List.take_add_one,h];rfl)
        have i3:(0:Int)≤(d:Int)+1:=by omega
        have i4:(d:Int)+1≤(len:Int):=by omega
        have i5:(len:Int)≤(cx:Int):=by omega
        have i6:IntKind.i64.wrap ((d:Int)+1)=(d:Int)+1:=by rw[IntKind.wrap_i64];omega
        have i7:d+1≤len:=by omega
        clear hx hcell hb hSS hBL;generalize hbl:BL.length=bl at *;have HBL:=Hd hbl;clear hbl;go_wp2_with (first
          | (
             go_at_call 151;refine HL8.out.mono ?_;rintro e w10 ⟨A9,c9,rfl,hn9,hb9⟩
             have HN9:=Hd hn9;have HB9:=Hd hb9;have HB10:=Hd (HB8.out.trans (hb9.mono HB8.out.size));clear hn9 hb9)
          | (
             go_at_call 152;refine(HSET.out _ HB10.out _ BL HN9.out HBLS.out.2).mono ?_;rintro e w11 ⟨t0,rfl,hn0,hh0,hw0,hs0,hb0⟩
             rw[HBLS.out.1]at hs0;have HT0:=Hd (And.intro hn0 (And.intro (And.intro hh0 hw0) hs0));have HB11:=Hd (HB9.out.trans (hb0.mono HB9.out.size));unfold SetH.v;clear hn0 hh0 hw0 hs0 hb0)
          | (
             at_builtin;refine wpList_app ElTail (.tmp 98) (.tmp 104) rfl rfl (base:=w7.heap.size) (n:=d) (m:=1) (N:=d+1) (xs:=Z.flatMap tlC) (news:=tlC (t0,(SS,ee))) rfl rfl (own_below (by have h:=(HTL.out.later HB11.out).row;rw[HZL.out]at h;exact h) (below_alloc w11 (.cells #[.pointer (some ⟨t0.h,0,none⟩),.bool ee] 235))) (SrcOK.blk (c:=1) (cs:=tlC (t0,(SS,ee))) (Blk.new w11 235 _) rfl (fun u hu=>by unfold tlC at hu;simp at hu;rcases hu with rfl|rfl<;>rfl)) rfl (by unfold maxLen;omega) (by omega) (by have h1:=HB10.out.size;have h2:=HB11.out.size;have h3:=HB8.out.size;simp;omega) ?_
             intro A12 c12 w12 q1 q2 q3;have HTN:Hid (Tlr w7 w12 (g.nt+1) (.slice A12 (d+1) c12) (Z++[(t0,(SS,ee))])):=Hd (by have hh:=(HTL.out.later HB11.out).later (below_alloc w11 (.cells #[.pointer (some ⟨t0.h,0,none⟩),.bool ee] 235));have hz:=HZL.out;have hb10:=HB10.out.size;obtain⟨n0,⟨h0,h1⟩,s0⟩:=HT0.out;have hm:=hh.more (t:=t0) (S:=SS) (e:=ee) (s0.later (below_alloc w11 _)) n0 ⟨by omega,by omega⟩ (A:=A12) (c:=c12) (by rw[hz];exact q1) q2;rw[hz]at hm;exact hm)
             clear q1 q2 q3))
        go_roundg (len-(d+1))
        case measure=>have:=HMD.out;omega
        case rel=>exact⟨d+1,Z++[(t0,(SS,ee))],Hd (by have:=HMD.out;omega),by omega,by go_num,Hd (by simp[HZL.out]),HTN,Hd (by rw[mpA,HZE.out,HTK.out];rfl)⟩
       ·obtain rfl:d=len:=by omega
        have HMW:=Hd (HM7.out.later HB8.out);have HBW:=Hd (HBK7.out.below HB8.out HBK7.out.lt);have HTE:Hid (Z.map (·.2)=g.tailsK E C k):=Hd (by have h:=HZE.out;rw[tkL (by unfold Gz.tailsK;rw[lM,List.length_range,HLN.out];exact leR _)]at h;exact h)
        have z6:w8.cell? ⟨mb,6,none⟩=some (.slice At k ct):=Blk.cell HBW.out 6;have ml8:=HBW.out.lt;have hk3:k≤1000:=by omega
        clear r1 rl8 HMD HZE;go_wp2_with (
                 at_builtin;refine wpList_app ElTailsQ (.tmp 111) (.tmp 113) rfl rfl (base:=w.heap.size) (n:=k) (m:=1) (N:=k+1) (xs:=TV) (news:=[.slice A5 d c5]) rfl rfl (own_below (by have h:=HMW.out.trow;rw[HRT.out.2]at h;exact h) (below_alloc w8 (.cells #[.slice A5 d c5] 230))) (SrcOK.blk (c:=1) (cs:=[.slice A5 d c5]) (Blk.new w8 230 _) rfl (by simp[Value.oneCell'])) rfl (by unfold maxLen;omega) (by omega) (by have:=HMW.out.fine.size;simp;omega) ?_
                 intro A9 c9 w9 q1 q2 q3;have hb9:=q2.blk (HBW.out.alloc (.cells #[.slice A5 d c5] 230)) (.inr (by decide));have HB9:=Hd hb9;have f9:=Blk.frozen hb9 6;have z9:w9.cell? ⟨mb,6,none⟩=some (.slice At k ct):=Blk.cell hb9 6;have l9:=hb9.lt;have HMN:Hid (∃R3,Mps w0 w (w9.setCell ⟨mb,6,none⟩ (.slice A9 (k+1) c9)) F g E C (.slice A6 (k+1) c6) (.slice A9 (k+1) c9) ub N (min (k+1) g.R.length) (RV++[.slice Ax d cx]) (TV++[.slice A5 d c5]) R3 ((List.range (k+1)).map (g.tailsK E C))):=Hd (by
                  have hA:=HMW.out.later (below_alloc w8 (.cells #[.slice A5 d c5] 230));have hT:=(HTL.out.later (below_alloc w8 (.cells #[.slice A5 d c5] 230))).tla (lo:=w.heap.size) (by have:=HM7.out.fine.size;omega) (by rw[HZL.out];omega);rw[HTE.out]at hT;have hlk:=HRT.out.2;have hM:=hA.tailed (x:=.slice A5 d c5) (l:=g.tailsK E C k) (A:=A9) (c:=c9) (by rw[hlk];exact q1) q3.1 hT (by rw[hlk];simp);rw[hlk]at hM;have e:(List.range (k+1)).map (g.tailsK E C)=(List.range k).map (g.tailsK E C)++[g.tailsK E C k]:=by rw[List.range_succ,mpA];rfl
                  rw[e];exact⟨_,hM.far hb9 HMB.out 6 _⟩)
                 have HCN:Hid (Chg (·=mb) w (w9.setCell ⟨mb,6,none⟩ (.slice A9 (k+1) c9))):=Hd (((HC7.out.next (Chg.of_below HB8.out)).alloc (.cells #[.slice A5 d c5] 230)).trans (Y:=fun b=>b=mb∨w.heap.size≤b) ((q2.chg.mono fun b hb=>.inr hb).next (Chg.set (X:=fun b=>b=mb∨w.heap.size≤b) (Chg.refl _ w9) (p:=⟨mb,6,none⟩) (.inr (.inl rfl)) _)) (fun i hi hx=>hx.resolve_right (by omega)));clear q1 q2 q3 hb9)
        obtain⟨R3,HM3⟩:=HMN.out
        go_roundg (g.R.length-k)
        case measure=>have:=HNK.out;omega
        case rel=>exact⟨k+1,_,_,_,_,R3,Hd (by have:=HNK.out;omega),by omega,by go_num,Hd ⟨by simp[HRT.out.1],by simp[HRT.out.2]⟩,Hd HM3,Hd (HB9.out.set_ 6 _),HCN⟩
  ·obtain rfl:k=g.R.length+1:=by omega
   have hmin:min (g.R.length+1) g.R.length=g.R.length:=by omega
   have HM1:Hid (Mps w0 w w9 F g E C rv tlv ub N g.R.length RV TV R T):=Hd (by have h:=HM.out;rw[hmin,←HTT.out]at h;exact h);have hki:¬(((g.R.length:Int)+1)<((g.R.length:Int)+1)):=by omega
   have ml9:=HBK.out.lt;have HTL:Hid (∀k,k≤g.R.length→(T.getD k []).length=(g.right k).length):=Hd (fun k hk=>by rw[HTT.out,dG,pG,List.getElem?_range (by omega)];unfold Gz.tailsK;simp)
   have HCOM:Hid (∀(y:World) (mv:Array Value) (s:Nat),Mps w0 w y F g E C rv tlv ub N g.R.length RV TV R T→(∀j,j<4→y.cell? ⟨mb,j,none⟩=(Value.agg #[.slice AT g.nt cT,.slice AN g.nn cN,.slice AR g.R.length cR,.int .i64 g.s]).cells[j]?)→y.cell? ⟨mb,5,none⟩=some rv→y.cell? ⟨mb,6,none⟩=some tlv→y.cell? ⟨mb,7,none⟩=some (.slice (some ⟨ub,0,none⟩) N N)→g.nt<s→s<N →
      Calls Tryz.prog 153 #[.pointer (some ⟨mb,0,none⟩),.int .i64 s] y fun e w'=>∃A c,e=.returned (.slice A (CC.getD s []).length c)∧CmA (fun b=>y.heap.size≤b∧b<w'.heap.size) w' (g.nt+1) (.slice A (CC.getD s []).length c) (CC.getD s [])∧Below y.heap.size y w'):=Hd (fun y mv s hM hc h5 h6 h7 hs1 hs2=>by
     have hs3:s<g.top+1:=by rw[←HN.out];exact hs2
     obtain⟨d1,d2,d3⟩:=hM.done HRT.out.1 HRT.out.2 hnr htop;have hold:∀b,Stl w0 w y b→Old y.heap.size b:=fun b hb=>hb.2
     rw[←HN.out]at d3;refine(coming_any (HCO.out y hM.fine.below) hc h5 h6 h7 (d1.mono hold) (by rw[←HN.out];exact d3.mono hold) (d2.mono hold) HTL.out hs1 (by omega) (comesTo_at HCC.out hs1 hs3)).mono ?_;rintro e w' ⟨cv,rfl,h1,h2⟩;obtain⟨A,c,hv,hh⟩:=h1;exact⟨A,c,by rw[hv],⟨A,c,rfl,hh⟩,h2⟩)
   have HTP:=Hd (HT.out w9 HB9.out);have hnnN:g.nt+1≤N:=by have h:=HN.out;unfold Gz.top at h;omega
   clear HM hmin;go_wp2_with (
             go_at_call 38;refine HTP.out.mono ?_;rintro e w2 ⟨rfl,hb2⟩
             have HM2:=Hd (HM1.out.later hb2);have HBK2:=Hd (HBK.out.below hb2 HBK.out.lt);have HC2:=Hd (HCH.out.next (Chg.of_below hb2));have f8:=Blk.frozen HBK2.out 8;have x8:w2.cell? ⟨mb,8,none⟩=some cv0:=Blk.cell HBK2.out 8;have x0:w2.cell? ⟨mb,0,none⟩=some (.slice AT g.nt cT):=Blk.cell HBK2.out 0;have l2:=HBK2.out.lt;clear hb2)
   have HCV0:Hid (Mps w0 w ((w2.setCell ⟨mb,8,none⟩ (.slice (some ⟨w2.heap.size,0,none⟩) N N)).alloc (.cells (Array.replicate N (.slice none 0 0)) 236)) F g E C rv tlv ub N g.R.length RV TV R T∧Blk ((w2.setCell ⟨mb,8,none⟩ (.slice (some ⟨w2.heap.size,0,none⟩) N N)).alloc (.cells (Array.replicate N (.slice none 0 0)) 236)) mb 192 (MkA (.agg #[.slice AT g.nt cT,.slice AN g.nn cN,.slice AR g.R.length cR,.int .i64 g.s]) lv rv tlv (.slice (some ⟨ub,0,none⟩) N N) (.slice (some ⟨w2.heap.size,0,none⟩) N N) bv av ev fv)∧Chg (·=mb) w ((w2.setCell ⟨mb,8,none⟩ (.slice (some ⟨w2.heap.size,0,none⟩) N N)).alloc (.cells (Array.replicate N (.slice none 0 0)) 236)) ∧
      ((w2.setCell ⟨mb,8,none⟩ (.slice (some ⟨w2.heap.size,0,none⟩) N N)).alloc (.cells (Array.replicate N (.slice none 0 0)) 236)).ownsRow w.heap.size 236 1 (.slice (some ⟨w2.heap.size,0,none⟩) N N) N (List.replicate N (.slice none 0 0))):=Hd (by
     have hsz:(w2.setCell ⟨mb,8,none⟩ (.slice (some ⟨w2.heap.size,0,none⟩) N N)).heap.size=w2.heap.size:=by simp[World.setCell]
     refine⟨(HM2.out.far HBK2.out HMB.out 8 _).later (below_alloc1 _ _),(HBK2.out.set_ 8 _).alloc _,(HC2.out.set (X:=(·=mb)) (p:=⟨mb,8,none⟩) (.inr rfl) _).alloc _,⟨by simp,.inr ⟨w2.heap.size,N,Array.replicate N (.slice none 0 0),rfl,HM2.out.fine.size,?_,leR _,by unfold maxLen;omega,by simp,by simp⟩⟩⟩;have h:=Blk.new (w2.setCell ⟨mb,8,none⟩ (.slice (some ⟨w2.heap.size,0,none⟩) N N)) 236 (Array.replicate N (.slice none 0 0));rw[hsz]at h;exact h)
   generalize (w2.setCell ⟨mb,8,none⟩ (.slice (some ⟨w2.heap.size,0,none⟩) N N)).alloc (.cells (Array.replicate N (.slice none 0 0)) 236)=W1 at *;generalize w2.heap.size=cb at *;obtain⟨HMC,HBC,HCC1,HVC⟩:=HCV0.out;have HMC:=Hd HMC;have HBC:=Hd HBC;have HCC1:=Hd HCC1;have HVC:=Hd HVC;clear HCV0 f8 x8 x0 l2 hmk2 z0 z1 z2 z3;go_loopg [10] (N-(g.nt+1)) (fun m ss wr=>∃(s:Nat) (CV:List Value),Hid (m+s=N)∧g.nt<s∧s≤N∧ss=.int .i64 s∧Hid (Mps w0 w wr F g E C rv tlv ub N g.R.length RV TV R T)∧Hid (Blk wr mb 192 (MkA (.agg #[.slice AT g.nt cT,.slice AN g.nn cN,.slice AR g.R.length cR,.int .i64 g.s]) lv rv tlv (.slice (some ⟨ub,0,none⟩) N N) (.slice (some ⟨cb,0,none⟩) N N) bv av ev fv))∧Hid (Chg (·=mb) w wr)∧Hid (wr.ownsRow w.heap.size 236 1 (.slice (some ⟨cb,0,none⟩) N N) N CV)∧Hid (∀i x,CV[i]?=some x→CmA (fun b=>cb<b∧b<wr.heap.size) wr (g.nt+1) x (if i<s then CC.getD i [] else[])))
   case atStart=>
     refine⟨g.nt+1,_,Hd (by omega),Nat.lt_succ_self _,hnnN,by go_num,HMC,HBC,HCC1,HVC,Hd (fun i x hx=>?_)⟩;obtain⟨h1,rfl⟩:=sG.1 hx;rw[List.getElem_replicate];split
     ·rw[comesTo_low HCC.out (by omega)]
      exact CmA.nil_ _ _ _
     ·exact CmA.nil_ _ _ _
   case round=>
     obtain⟨s,CV,HMS,hs1,hs2,rfl,HM3,HB3,HC3,HV3,HX3⟩:=hrel;rename World=>w8
     have HBE:=Hd HM3.out.fine.below;have z0:w8.cell? ⟨mb,0,none⟩=some (.slice AT g.nt cT):=Blk.cell HB3.out 0;have z1:w8.cell? ⟨mb,1,none⟩=some (.slice AN g.nn cN):=Blk.cell HB3.out 1;have z2:w8.cell? ⟨mb,2,none⟩=some (.slice AR g.R.length cR):=Blk.cell HB3.out 2;have z3:w8.cell? ⟨mb,3,none⟩=some (.int .i64 g.s):=Blk.cell HB3.out 3;have HT8:=Hd (HT.out w8 HBE.out);have HN2:=HN.out;by_cases hlt2:s<N
     ·have hsl:(s:Int)≤(g.top:Int):=by omega
      have hsN:(s:Int)<(N:Int):=by omega
      clear HN2;go_upto_region 22 with(
                   go_at_call 38;refine HT8.out.mono ?_;rintro e w4 ⟨rfl,hb4⟩
                   have HB4:=Hd hb4;clear hb4)
      have HM4:=Hd (HM3.out.later HB4.out);have HBK4:=Hd (HB3.out.below HB4.out HB3.out.lt);have HV4:=Hd (own_below HV3.out HB4.out);have HC4:=Hd (HC3.out.next (Chg.of_below HB4.out));have z8:w4.cell? ⟨mb,8,none⟩=some (.slice (some ⟨cb,0,none⟩) N N):=Blk.cell HBK4.out 8;have ml4:=HBK4.out.lt;have HCL:Hid (Calls Tryz.prog 153 #[.pointer (some ⟨mb,0,none⟩),.int .i64 s] w4.drew fun e w'=>∃A c,e=.returned (.slice A (CC.getD s []).length c)∧CmA (fun b=>w4.heap.size≤b∧b<w'.heap.size) w' (g.nt+1) (.slice A (CC.getD s []).length c) (CC.getD s [])∧Below w4.heap.size w4 w'):=Hd (by
       have hd:Below w4.heap.size w4 w4.drew:=(Below.refl _ w4).drew;have hb:=HBK4.out.drew;refine(HCOM.out w4.drew #[] s (HM4.out.later hd) (fun j hj=>?_) (Blk.cell hb 5) (Blk.cell hb 6) (Blk.cell hb 7) hs1 hlt2).mono ?_
       ·rw[hb.cell]
        match j,hj with
        | 0,_=>rfl
        | 1,_=>rfl
        | 2,_=>rfl
        | 3,_=>rfl
       ·rintro e w' ⟨A,c,rfl,h1,h2⟩
        exact⟨A,c,rfl,h1,hd.trans h2⟩)
      obtain⟨cs,hcs⟩:∃cs,CC.getD s []=cs:=⟨_,rfl⟩
      rw[hcs]at HCL;have HCS:=Hd hcs;clear hcs z0 z1 z2 z3;have hcbw:=(own_lt HV4.out cb rfl).1;have HCBW:=Hd hcbw;generalize hcl:cs.length=cl at *;have HCLN:=Hd hcl;clear hcl;go_region_law (first|(
                   go_simp;go_at_call 153;refine HCL.out.mono ?_;rintro e w5 ⟨A5,c5,rfl,h5,hb5⟩;have H5:=Hd h5;have HB5:=Hd hb5;have HBK5:=Hd (HBK4.out.below hb5 HBK4.out.lt);have HV5:=Hd (own_below HV4.out hb5);have z8_:w5.cell? ⟨mb,8,none⟩=some (.slice (some ⟨cb,0,none⟩) N N):=Blk.cell HBK5.out 8;have ml_:=HBK5.out.lt;have f5_:=own_frozen HV5.out s;have c5_:=own_cell HV5.out s (by omega);have hcv:CV[s]?=some (CV[s]'(by have:=HV5.out.1;omega)):=eG _;rw[hcv]at c5_;have l5_:=(own_lt HV5.out cb rfl).1;clear h5 hb5 hcv))
      all_goals go_wp2_with fail
      all_goals go_roundg (N-(s+1))
      all_goals first
       | (have:=HMS.out;omega)
       | (
         obtain⟨curc,hcurc⟩:∃cur,Blk w5 cb 236 cur:=by
           rcases HV5.out.2 with⟨hh,_⟩|⟨g',cap,cur,hh,hB,hgg,_⟩
           · cases hh
           · cases hh;exact⟨cur,hgg⟩
         have hcb0:=(own_lt HV5.out cb rfl).2;have hcs:Chg (·=cb) w5 (w5.setCell ⟨cb,s,none⟩ (.slice A5 cl c5)):=Chg.set (X:=(·=cb)) (Chg.refl _ w5) (p:=⟨cb,s,none⟩) (.inr rfl) _;have hsz:(w5.setCell ⟨cb,s,none⟩ (.slice A5 cl c5)).heap.size=w5.heap.size:=by simp[World.setCell]
         have hcl:cb<w4.heap.size:=HCBW.out;have h45:=HB5.out.size;have h84:=HB4.out.size;have hbase:=HM4.out.fine.base;refine⟨s+1,CV.set s (.slice A5 cl c5),Hd (by omega),by omega,by omega,by go_num,Hd ((HM4.out.later HB5.out).farT hcurc (by omega) (by decide) (by decide) (by decide) (by decide) (by decide) (by decide) (by decide) (by decide) s _),Hd (HBK5.out.far (p:=⟨cb,s,none⟩) (Blk.ne_ HBK5.out hcurc (by decide)) _),Hd ((HC4.out.next (Chg.of_below HB5.out)).trans hcs (fun i hi e=>by have e2:i=cb:=e;omega)),Hd (own_set HV5.out s (by omega) _),Hd (fun i x hx=>?_)⟩
         by_cases his:i=s
         · subst his
           rw[tG (by have:=HV5.out.1;omega)]at hx;cases hx
           rw[if_pos (Nat.lt_succ_self _),HCS.out];refine(H5.out.chg hcs (fun b hb e=>by have e2:b=cb:=e;omega)).mono fun b hb=>?_
           rw[hsz];omega
         · rw[uG (fun e=>his e.symm)]at hx
           have h8:=HX3.out i x hx;have h9:=(h8.chg (Chg.of_below (X:=fun _=>False) (HB4.out.trans (HB5.out.mono h84))) (fun _ _=>id)).chg hcs (fun b hb e=>by have e2:b=cb:=e;omega);have e3:(if i<s+1 then CC.getD i [] else[])=(if i<s then CC.getD i [] else[]):=by
             by_cases h:i<s
             ·rw[if_pos h,if_pos (by omega)]
             ·rw[if_neg h,if_neg (by omega)]
           rw[e3];refine h9.mono fun b hb=>?_
           rw[hsz];omega)
     ·obtain rfl:s=N:=by omega
      have hsl:¬((s:Int)≤(g.top:Int)):=by omega
      clear HN2;go_wp2_with (
               go_at_call 38;refine HT8.out.mono ?_;rintro e w4 ⟨rfl,hb4⟩
               have HB4:=Hd hb4;clear hb4)
      go_end0
      have hM:=HM3.out.later HB4.out;have h84:=HB4.out.size;obtain⟨d1,d2,d3⟩:=hM.done HRT.out.1 HRT.out.2 hnr htop;refine⟨rfl,hM.fine.below,hM.fine.size,HC3.out.next (Chg.of_below HB4.out),rv,tlv,_,_,HB3.out.below HB4.out HB3.out.lt,d1,d2,?_,?_⟩
      ·rw[←HN.out]at d3 ⊢
       exact d3
      ·rw[←HN.out]
       have hV:=own_below HV3.out HB4.out;have hcb:=(own_lt HV3.out cb rfl).2;have hst:∀b,w.heap.size≤b→b<w4.heap.size→Stl w0 w w4 b:=fun b a1 a2=>⟨.inr a1,a2⟩
       refine RowA.own1 hV (by omega) hst fun i x hx=>?_
       have hi:i<s:=by have h1:=(sG.1 hx).1;have h2:=HV3.out.1;omega
       have h8:=HX3.out i x hx;rw[if_pos hi]at h8;exact(h8.chg (Chg.of_below (X:=fun _=>False) HB4.out) (fun _ _=>id)).mono fun b hb=>hst b (by omega) (by omega)
end Go.Proofs.YthaacmablcpdfaaGreatDoor
