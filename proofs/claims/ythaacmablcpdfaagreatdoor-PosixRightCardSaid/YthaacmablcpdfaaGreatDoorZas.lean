/- The builder's states. Rows of items. -/
import Derived.Test.YthaacmablcpdfaaGreatDoorZaq
import Derived.Test.YthaacmablcpdfaaGreatDoorZar
import Derived.Test.YthaacmablcpdfaaGreatDoorNm
namespace Go.Proofs.YthaacmablcpdfaaGreatDoor
open Go.RowKit
set_option linter.unusedVariables false
set_option maxRecDepth 100000
theorem ElState:El Tryz.prog 57 71 2 48:=El.of (z:=.agg #[.slice none 0 0,.slice none 0 0]) Tryz.underlying57 (by kernel_rfl) rfl (by decide)
def stC(x:Value×Value):List Value:=[x.1,x.2]
def stateL(L:List (List It))(l:List It):Nat×List (List It):=if l∈L then(L.idxOf l,L) else(L.length,L++[l])
def ItOk(l:List It):Prop:=l.length≤100000∧∀x∈l,x.1<65536∧x.2<256
structure Bld(w0 w:World)(bb mb tb:Nat)(v:Value)(g:Gz)(bv sv:Value)(V:List (Value×Value))(L:List (List It))(D:DataW Unit):Prop where
 gn:GN w0 v g
 blk:Blk w bb 179 (v.cells++#[bv,sv,.map (some mb),.map (some tb)])
 rows:w.ownsRow w0.heap.size 71 2 sv V.length (V.flatMap stC)
 len:L.length=V.length
 items:∀(k:Nat) (x:Value×Value) (l:List It),V[k]?=some x→L[k]?=some l→w.ownsRow w0.heap.size 194 2 x.1 l.length (l.flatMap itC)
 map:PMap w mb V.length D
 at_:AtD D (L.map keyL)
 ok:∀l∈L,ItOk l
 b0:w0.heap.size≤bb∧w0.heap.size≤mb
 below:Below w0.heap.size w0 w
 small:V.length≤100000
 nil_:∀x∈V,x.2=.slice none 0 0
theorem Bld.later{w0 w w':World}{bb mb tb:Nat}{v:Value}{g:Gz}{bv sv:Value}{V:List (Value×Value)}{L:List (List It)}{D:DataW Unit}(h:Bld w0 w bb mb tb v g bv sv V L D)(hb:Below w.heap.size w w'):Bld w0 w' bb mb tb v g bv sv V L D:=
 ⟨h.gn,(hb.block bb (Blk.lt h.blk)).trans h.blk,own_below h.rows hb,h.len,fun k x l hx hl=>own_below (h.items k x l hx hl) hb,h.map.kept (row:=none) ⟨hb.os,hb.tape,hb.output,hb.size,fun k hk _=>hb.block k hk⟩ (by simp),h.at_,h.ok,h.b0,h.below.trans (hb.mono h.below.size),h.small,h.nil_⟩
theorem Bld.bg{w0 w:World}{bb mb tb:Nat}{v:Value}{g:Gz}{bv sv:Value}{V:List (Value×Value)}{L:List (List It)}{D:DataW Unit}(h:Bld w0 w bb mb tb v g bv sv V L D):BG w bb v g:=by
 refine⟨h.gn.later h.below,fun j hj=>?_⟩;obtain⟨AT,cT,AN,cN,AR,cR,rfl,-,-⟩:=h.gn.open_;rw[h.blk.cell]
 match j,hj with
 | 0,_=>rfl
 | 1,_=>rfl
 | 2,_=>rfl
 | 3,_=>rfl
theorem keys_mem{L:List (List It)}{l:List It}(hL:∀m∈L,ItOk m)(hl:ItOk l):keyL l∈L.map keyL↔l∈L:=by rw[List.mem_map];exact⟨fun⟨m,hm,e⟩=>keyL_inj (hL m hm).2 hl.2 e▸hm,fun h=>⟨l,h,rfl⟩⟩
theorem keys_idx{L:List (List It)}{l:List It}(hL:∀m∈L,ItOk m)(hl:ItOk l):(L.map keyL).idxOf (keyL l)=L.idxOf l:=by
 induction L with
 | nil=>rfl
 | cons m L ih=>
  have h1:=ih fun x hx=>hL x (List.mem_cons_of_mem _ hx)
  rw[List.map_cons,List.idxOf_cons,List.idxOf_cons,h1];by_cases e:m=l
  ·subst e;simp
  ·have e2:keyL m≠keyL l:=fun h=>e (keyL_inj (hL m (List.mem_cons_self ..)).2 hl.2 h)
   have b1:(m==l)=false:=beq_false_of_ne e;have b2:(keyL m==keyL l)=false:=beq_false_of_ne e2;rw[b1,b2]
theorem Bld.more{w0 w w':World}{bb mb tb:Nat}{v:Value}{g:Gz}{bv sv:Value}{V:List (Value×Value)}{L:List (List It)}{D:DataW Unit}(h:Bld w0 w bb mb tb v g bv sv V L D){iv:Value}{l:List It}(hl:ItOk l)(hn:l ∉ L)(hV:V.length<100000)
  {sv':Value} (hb:Blk w' bb 179 (v.cells++#[bv,sv',.map (some mb),.map (some tb)])) (hr:w'.ownsRow w0.heap.size 71 2 sv' (V.length+1) (V.flatMap stC++[iv,.slice none 0 0]))
  (hi:w'.ownsRow w0.heap.size 194 2 iv l.length (l.flatMap itC)) (ho:∀(k:Nat) (x:Value×Value) (m:List It),V[k]?=some x→L[k]?=some m→w'.ownsRow w0.heap.size 194 2 x.1 m.length (m.flatMap itC))
  (hm:PMap w' mb (V.length+1) (D.put (klR (keyL l)) (.lit (.int .i64 (V.length:Nat))))) (hbe:Below w0.heap.size w0 w'):Bld w0 w' bb mb tb v g bv sv' (V++[(iv,.slice none 0 0)]) (L++[l]) (D.put (klR (keyL l)) (.lit (.int .i64 (V.length:Nat)))):=by
 have hk:keyL l ∉ L.map keyL:=fun hh=>hn ((keys_mem h.ok hl).1 hh)
 refine⟨h.gn,hb,?_,by simp[h.len],?_,by simpa using hm,?_,?_,h.b0,hbe,by simp;omega,?_⟩
 ·simpa [stC] using hr
 ·intro k x m hx hmm
  by_cases hk:k<V.length
  ·rw[gL hk]at hx
   rw[gL (by rw[h.len];exact hk)]at hmm;exact ho k x m hx hmm
  ·have hlen:=(sG.1 hx).1
   simp at hlen;obtain rfl:k=V.length:=by omega
   have e1:(V++[(iv,Value.slice none 0 0)])[V.length]?=some (iv,.slice none 0 0):=by simp
   have e2:(L++[l])[V.length]?=some l:=by rw[←h.len];simp
   rw[e1]at hx;rw[e2]at hmm;cases hx
   cases hmm
   exact hi
 ·have:=h.at_.next h.map.isMap hk
  rw[lM,h.len]at this;rw[mpA];exact this
 ·intro m hmm
  rcases mA.1 hmm with h1|h1
  ·exact h.ok m h1
  ·rw[mS.1 h1];exact hl
 ·intro x hx
  rcases mA.1 hx with h1|h1
  ·exact h.nil_ x h1
  ·rw[mS.1 h1]
theorem own_neb{w:World}{B b:Nat}{e t:TypeId}{size n:Nat}{v:Value}{xs:List Value}{cs:Array Value}(h:w.ownsRow B e size v n xs)(hb:Blk w b t cs)(hne:t≠e):∀k,v.ownBlock=some k→k≠b:=by
 intro k hk;rintro rfl;rcases h.2 with⟨rfl,_⟩|⟨g,cap,cur,rfl,_,hgg,_⟩
 ·cases hk
 ·cases hk
  have h1:Blk w g e cur:=hgg;exact Blk.ne_ hb h1 hne rfl
theorem own_nemap{w:World}{B mb n2:Nat}{e:TypeId}{size n:Nat}{v:Value}{xs:List Value}{D:DataW Unit}(h:w.ownsRow B e size v n xs)(hm:PMap w mb n2 D):v.ownBlock≠some mb:=by
 intro hk;obtain⟨es,clock,hb,_⟩:=hm;rcases h.2 with⟨rfl,_⟩|⟨g,cap,cur,rfl,_,hgg,_⟩
 ·cases hk
 ·cases hk
  rw[hb]at hgg;cases hgg
theorem blk_nemap{w:World}{b mb n2:Nat}{t:TypeId}{cs:Array Value}{D:DataW Unit}(h:Blk w b t cs)(hm:PMap w mb n2 D):b≠mb:=by rintro rfl;obtain⟨es,clock,hb,_⟩:=hm;unfold Blk at h;rw[hb]at h;cases h
theorem Bld.mapped{w0 w w2:World}{bb mb tb:Nat}{v:Value}{g:Gz}{bv sv:Value}{V:List (Value×Value)}{L:List (List It)}{D:DataW Unit}(h:Bld w0 w bb mb tb v g bv sv V L D)(hg:w.grownBy w2 (some mb)) :
  Blk w2 bb 179 (v.cells++#[bv,sv,.map (some mb),.map (some tb)])∧w2.ownsRow w0.heap.size 71 2 sv V.length (V.flatMap stC)∧(∀(iv:Value) (l:List It),w.ownsRow w0.heap.size 194 2 iv l.length (l.flatMap itC)→w2.ownsRow w0.heap.size 194 2 iv l.length (l.flatMap itC))∧Below w0.heap.size w0 w2∧Chg (·=mb) w w2:=
 ⟨h.blk.grown hg (by have:=blk_nemap h.blk h.map;simp;exact this),h.rows.kept (row:=some mb) hg (.inr (own_nemap h.rows h.map)),fun iv l hi=>hi.kept (row:=some mb) hg (.inr (own_nemap hi h.map)),h.below.grown hg h.below.size (fun k hk=>by cases hk;exact h.b0.2),Chg.of_map hg⟩
theorem Bld.added{w0 w w2 w3:World}{bb mb tb:Nat}{v:Value}{g:Gz}{bv sv:Value}{V:List (Value×Value)}{L:List (List It)}{D:DataW Unit}(h:Bld w0 w bb mb tb v g bv sv V L D){iv:Value}{l:List It}(hl:ItOk l)(hn:l ∉ L)(hV:V.length<100000)(hi:w.ownsRow w0.heap.size 194 2 iv l.length (l.flatMap itC))
  (hg:w.grownBy w2 (some mb)) (hm:PMap w2 mb (V.length+1) (D.put (klR (keyL l)) (.lit (.int .i64 (V.length:Nat))))) {o:Obj} {A:Option Addr} {c:Nat} (r1:w3.ownsRow w0.heap.size 71 2 (.slice A (V.length+1) c) (V.length+1) (V.flatMap stC++[iv,.slice none 0 0]))
  (r2:Keeps w0.heap.size [71] (w2.alloc o) w3) (r3:(w2.alloc o).grownBy w3 sv.ownBlock) :
  Bld w0 (w3.setCell ⟨bb,5,none⟩ (.slice A (V.length+1) c)) bb mb tb v g bv (.slice A (V.length+1) c) (V++[(iv,.slice none 0 0)]) (L++[l]) (D.put (klR (keyL l)) (.lit (.int .i64 (V.length:Nat))))∧Chg (fun k=>k=bb∨k=mb∨sv.ownBlock=some k) w (w3.setCell ⟨bb,5,none⟩ (.slice A (V.length+1) c)):=by
 obtain⟨m1,m2,m3,m4,m5⟩:=h.mapped hg;obtain⟨AT,cT,AN,cN,AR,cR,rfl,-,-⟩:=h.gn.open_;have b3:=r2.blk (m1.alloc o) (.inr (by decide));have p3:PMap w3 mb (V.length+1) (D.put (klR (keyL l)) (.lit (.int .i64 (V.length:Nat)))):=by obtain⟨es,clock,hb,rest⟩:=hm.alloc o;exact⟨es,clock,(r2.block mb (aG.1 hb).1 (.inr fun cs t m hh=>by rw[hb]at hh;cases hh)).trans hb,rest⟩
 have hc4:Chg (·=bb) w3 (w3.setCell ⟨bb,5,none⟩ (.slice A (V.length+1) c)):=Chg.set (X:=(·=bb)) (Chg.refl _ w3) (p:=⟨bb,5,none⟩) (.inr rfl) _;have ho:∀(jv:Value) (m:List It),w.ownsRow w0.heap.size 194 2 jv m.length (m.flatMap itC)→(w3.setCell ⟨bb,5,none⟩ (.slice A (V.length+1) c)).ownsRow w0.heap.size 194 2 jv m.length (m.flatMap itC):=fun jv m hj=>by have h3:=r2.own ((m3 jv m hj).alloc o) (.inr (by decide));exact hc4.own h3 (own_neb h3 b3 (by decide))
 have hs2:w0.heap.size≤(w2.alloc o).heap.size:=by have:=m4.size;simp;omega
 refine⟨h.more hl hn hV (b3.set_ 5 _) (hc4.own r1 (own_neb r1 b3 (by decide))) (ho _ _ hi) (fun k x m hx hm'=>ho _ _ (h.items k x m hx hm')) (p3.setCell (by have:=blk_nemap b3 p3;simp;exact fun e=>this e.symm) _) ?_,?_⟩
 ·exact((m4.alloc m4.size o).trans (r2.below hs2)).setCell (p:=⟨bb,5,none⟩) h.b0.1 _
 ·exact(((m5.mono fun i hi=>.inr (.inl hi)).alloc o).next ((Chg.of_grown r3).mono fun i hi=>.inr (.inr hi))).next (hc4.mono fun i hi=>.inl hi)
def StEnd(w0 w:World)(bb mb tb:Nat)(v:Value)(g:Gz)(bv sv:Value)(r:Nat×List (List It))(e:Ending)(w':World):Prop:=
 e=.returned (.int .i64 (r.1:Nat))∧∃sv' V' D',Bld w0 w' bb mb tb v g bv sv' V' r.2 D'∧Chg (fun k=>k=bb∨k=mb∨sv.ownBlock=some k) w w'
theorem state_any{w0 w:World}{bb mb tb:Nat}{v:Value}{g:Gz}{bv sv:Value}{V:List (Value×Value)}{L:List (List It)}{D:DataW Unit}(h:Bld w0 w bb mb tb v g bv sv V L D){iv:Value}{l:List It}(hr:w.ownsRow w0.heap.size 194 2 iv l.length (l.flatMap itC))(hl:ItOk l)(hV:V.length<100000) :
  Calls Tryz.prog 108 #[.pointer (some ⟨bb,0,none⟩),iv] w (StEnd w0 w bb mb tb v g bv sv (stateL L l)):=by
 have HK:=Hd (key_any (Prs.own hr (by have:=hl.1;omega)) hl.1 (fun x hx=>by have:=hl.2 x hx;omega));obtain⟨Ai,ci,rfl⟩:=own_shape hr;obtain⟨As,cs,rfl⟩:=own_shape h.rows;obtain⟨AT,cT,AN,cN,AR,cR,rfl,-,-⟩:=h.gn.open_;have HH:=Hd h;have HR:=Hd hr;have HL:=Hd hl;clear h hr hl;have HD:Hid (Below w.heap.size w w→True):=Hd fun _=>trivial
 by_cases hin:l∈L
 ·have hst:stateL L l=(L.idxOf l,L):=if_pos hin
  rw[hst];unfold StEnd;have HIN:=Hd hin;clear hst hin;go_enter Tryz.func108,Tryz.ntmps108
  go_wp2_with (
   go_at_call 146;refine HK.out.mono ?_;rintro e w1 ⟨rfl,hb1⟩
   have h1:=HH.out.later hb1;have hlook:=at_look h1.map h1.at_ (s:=keyL l) (by rw[keyL_len];have:=HL.out.1;omega);rw[if_pos ((keys_mem h1.ok HL.out).2 HIN.out),keys_idx h1.ok HL.out,decide_eq_true ((keys_mem h1.ok HL.out).2 HIN.out)]at hlook;have z6:=Blk.cell h1.blk 6;simp[Value.cells]at z6;have HB1:=Hd hb1;have H1:=Hd h1;clear hb1 h1)
  go_ret;exact⟨rfl,_,_,_,H1.out,(Chg.of_below HB1.out)⟩
 ·have hst:stateL L l=(L.length,L++[l]):=if_neg hin
  rw[hst];unfold StEnd;have HIN:=Hd hin;clear hst hin;go_enter Tryz.func108,Tryz.ntmps108
  go_wp2_with (
   go_at_call 146;refine HK.out.mono ?_;rintro e w1 ⟨rfl,hb1⟩
   have h1:=HH.out.later hb1;have hlook:=at_look h1.map h1.at_ (s:=keyL l) (by rw[keyL_len];have:=HL.out.1;omega);have hni:keyL l ∉ L.map keyL:=fun hh=>HIN.out ((keys_mem h1.ok HL.out).1 hh)
   rw[if_neg hni,decide_eq_false hni]at hlook;have z5:=Blk.cell h1.blk 5;have z6:=Blk.cell h1.blk 6;simp[Value.cells]at z5 z6;have HB1:=Hd hb1;have H1:=Hd h1;clear hb1 h1 hni)
  have HE1:=Hd (H1.out.later ((Below.refl _ w1).drew));obtain⟨w2,hput,hm2,hg2⟩:=at_put HE1.out.map (by omega) (s:=keyL l) (by rw[keyL_len];have:=HL.out.1;omega) (c:=V.length) (by omega);have hmm:=HE1.out.mapped hg2;have HM2:=Hd hm2;have HG2:=Hd hg2;have HMM:=Hd hmm;have e5:=Blk.cell hmm.1 5;have f5:=Blk.frozen hmm.1 5;simp[Value.cells]at e5;have hbb2:=Blk.lt hmm.1;clear hm2 hg2 hmm
  go_region
  clear hput z5 z6 hlook;have hlen:=HE1.out.len;have hiv:=own_below HR.out HB1.out.drew;have HIV:=Hd hiv;clear hiv;go_wp2_with (
   at_builtin;refine wpList_app ElState (.tmp 35) (.tmp 38) rfl rfl (base:=w0.heap.size) (n:=V.length) (m:=1) (N:=V.length+1) (xs:=V.flatMap stC) (news:=[.slice Ai l.length ci,.slice none 0 0]) rfl rfl (HMM.out.2.1.alloc _) (SrcOK.blk (c:=1) (cs:=[.slice Ai l.length ci,.slice none 0 0]) (Blk.new w2 71 _) rfl (by simp[Value.oneCell'])) rfl (by unfold maxLen;omega) (by omega) (by have:=HMM.out.2.2.2.1.size;simp;omega) ?_
   intro A3 c3 w3 r1 r2 r3;have HF:=Hd (HE1.out.added HL.out HIN.out hV HIV.out HG2.out HM2.out r1 r2 r3.1);have b3:=r2.blk (HMM.out.1.alloc _) (.inr (by decide));have e6:=Blk.cell b3 5;have f6:=Blk.frozen b3 5;simp[Value.cells]at e6;have hbb3:=Blk.lt b3;clear r1 r2 r3 b3)
  go_ret;exact⟨by rw[hlen];rfl,_,_,_,HF.out.1,(Chg.of_below HB1.out.drew).next HF.out.2⟩
structure IFam(w:World)(B g n c:Nat)(R:List (Value×List It)):Prop where
 row:w.ownsRow B 68 1 (.slice (some ⟨g,0,none⟩) n c) n (R.map (·.1))
 own:∀(k:Nat) (x:Value×List It),R[k]?=some x→w.ownsRow B 194 2 x.1 x.2.length (x.2.flatMap itC)
 apart:∀(i j:Nat) (x y:Value×List It),R[i]?=some x→R[j]?=some y→i≠j→∀k,x.1.ownBlock=some k→y.1.ownBlock≠some k
theorem IFam.len{w:World}{B g n c:Nat}{R:List (Value×List It)}(h:IFam w B g n c R):R.length=n:=by have:=h.row.1;simpa using this
theorem IFam.later{w w':World}{B g n c:Nat}{R:List (Value×List It)}(h:IFam w B g n c R)(hb:Below w.heap.size w w'):IFam w' B g n c R:=
 ⟨own_below h.row hb,fun k x hx=>own_below (h.own k x hx) hb,h.apart⟩
theorem IFam.chg{X:Nat→Prop}{w w':World}{B g n c:Nat}{R:List (Value×List It)}(h:IFam w B g n c R)(hc:Chg X w w')(hg:¬X g)(hX:∀(k:Nat) (x:Value×List It),R[k]?=some x→∀b,x.1.ownBlock=some b→¬X b):IFam w' B g n c R:=
 ⟨hc.own h.row (fun k hk=>by cases hk;exact hg),fun k x hx=>hc.own (h.own k x hx) (hX k x hx),h.apart⟩
theorem own_lt{w:World}{B:Nat}{e:TypeId}{size n:Nat}{v:Value}{xs:List Value}(h:w.ownsRow B e size v n xs):∀k,v.ownBlock=some k→k<w.heap.size∧B≤k:=by
 intro k hk;rcases h.2 with⟨rfl,_⟩|⟨g,cap,cur,rfl,hB,hgg,_⟩
 ·cases hk
 ·cases hk
  exact⟨(aG.1 hgg).1,hB⟩
theorem IFam.blk{w:World}{B g n c:Nat}{R:List (Value×List It)}(h:IFam w B g n c R):∃cur,Blk w g 68 cur:=by
 rcases h.row.2 with⟨hh,_⟩|⟨g',cap,cur,hh,hB,hgg,_⟩
 ·cases hh
 ·cases hh;exact⟨cur,hgg⟩
theorem IFam.put{w W w3:World}{B g n c:Nat}{R:List (Value×List It)}(h:IFam w B g n c R)(hW:Below w.heap.size w W){s:Nat}{x:Value×List It}(hx:R[s]?=some x){nv:Value}{l:List It}
  (r1:w3.ownsRow B 194 2 nv l.length (l.flatMap itC)) (r2:Keeps B [194] W w3) (r3:W.grownBy w3 x.1.ownBlock∧(nv.ownBlock=x.1.ownBlock∨nv.ownBlock=some W.heap.size)):IFam (w3.setCell ⟨g,s,none⟩ nv) B g n c (R.set s (nv,l)):=by
 have hW0:=h.later hW;obtain⟨hs,hx2⟩:=sG.1 hx;have hlen:=h.len;obtain⟨cur,hcur⟩:=hW0.blk;have hc3:=r2.blk hcur (.inr (by decide));have hc:Chg (·=g) w3 (w3.setCell ⟨g,s,none⟩ nv):=Chg.set (X:=(·=g)) (Chg.refl _ w3) (p:=⟨g,s,none⟩) (.inr rfl) _;have hrow3:=r2.own hW0.row (.inr (by decide));refine⟨?_,?_,?_⟩
 ·have:=own_set hrow3 s (by omega) nv
  rw[List.map_set];exact this
 ·intro k y hy
  by_cases hk:k=s
  ·subst hk
   rw[tG hs]at hy;cases hy
   exact hc.own r1 (own_neb r1 hc3 (by decide))
  ·rw[uG (fun e=>hk e.symm)]at hy
   have hy0:=hW0.own k y hy;have hy3:w3.ownsRow B 194 2 y.1 y.2.length (y.2.flatMap itC):=(Chg.of_grown r3.1).own hy0 (fun b hb he=>h.apart s k x y hx hy (fun e=>hk e.symm) b he hb);exact hc.own hy3 (own_neb hy3 hc3 (by decide))
 ·intro i j a b ha hb hij k hak hbk
  have key:∀(m:Nat) (y:Value×List It),R[m]?=some y→m≠s→∀k,nv.ownBlock=some k→y.1.ownBlock≠some k:=fun m y hy hm k h1 h2=>by
   rcases r3.2 with e|e
   ·rw[e]at h1
    exact h.apart s m x y hx hy (fun e=>hm e.symm) k h1 h2
   ·rw[e]at h1
    cases h1
    have:=(own_lt (hW0.own m y hy) _ h2).1;omega
  by_cases hi:i=s
  ·subst hi
   rw[tG hs]at ha;cases ha
   rw[uG hij]at hb;exact key j b hb (fun e=>hij e.symm) k hak hbk
  ·rw[uG (fun e=>hi e.symm)]at ha
   by_cases hj:j=s
   ·subst hj
    rw[tG hs]at hb;cases hb
    exact key i a ha hi k hbk hak
   ·rw[uG (fun e=>hj e.symm)]at hb
    exact h.apart i j a b ha hb hij k hak hbk
def addI(R:List (List It))(s:Nat)(x:It):List (List It):=R.modify s (·++[x])
def moveI(g:Gz)(R:List (List It))(x:It):List (List It):=if g.next x=0 then R else addI R (g.next x) (x.1,x.2+1)
end Go.Proofs.YthaacmablcpdfaaGreatDoor
