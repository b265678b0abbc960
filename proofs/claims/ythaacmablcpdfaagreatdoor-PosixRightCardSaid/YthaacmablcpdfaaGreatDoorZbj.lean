/- Rows of numbers. Where the maker of lookaheads stands while it is. -/
import Derived.Test.YthaacmablcpdfaaGreatDoorZbi
import Derived.Test.YthaacmablcpdfaaGreatDoorZau
import Derived.Test.YthaacmablcpdfaaGreatDoorNm
namespace Go.Proofs.YthaacmablcpdfaaGreatDoor
open Go.RowKit
set_option linter.unusedVariables false
set_option maxRecDepth 100000
structure NFam(w:World)(B g n c:Nat)(R:List (Value×List Nat)):Prop where
 row:w.ownsRow B 44 1 (.slice (some ⟨g,0,none⟩) n c) n (R.map (·.1))
 own:∀(k:Nat) (x:Value×List Nat),R[k]?=some x→w.ownsRow B 3 1 x.1 x.2.length (x.2.map NatV)
 apart:∀(i j:Nat) (x y:Value×List Nat),R[i]?=some x→R[j]?=some y→i≠j→∀k,x.1.ownBlock=some k→y.1.ownBlock≠some k
theorem NFam.len{w:World}{B g n c:Nat}{R:List (Value×List Nat)}(h:NFam w B g n c R):R.length=n:=by have:=h.row.1;simpa using this
theorem NFam.later{w w':World}{B g n c:Nat}{R:List (Value×List Nat)}(h:NFam w B g n c R)(hb:Below w.heap.size w w'):NFam w' B g n c R:=
 ⟨own_below h.row hb,fun k x hx=>own_below (h.own k x hx) hb,h.apart⟩
theorem NFam.chg{X:Nat→Prop}{w w':World}{B g n c:Nat}{R:List (Value×List Nat)}(h:NFam w B g n c R)(hc:Chg X w w')(hg:¬X g)(hX:∀(k:Nat) (x:Value×List Nat),R[k]?=some x→∀b,x.1.ownBlock=some b→¬X b):NFam w' B g n c R:=
 ⟨hc.own h.row (fun k hk=>by cases hk;exact hg),fun k x hx=>hc.own (h.own k x hx) (hX k x hx),h.apart⟩
theorem NFam.blk{w:World}{B g n c:Nat}{R:List (Value×List Nat)}(h:NFam w B g n c R):∃cur,Blk w g 44 cur:=by
 rcases h.row.2 with⟨hh,_⟩|⟨g',cap,cur,hh,hB,hgg,_⟩
 ·cases hh
 ·cases hh;exact⟨cur,hgg⟩
theorem NFam.put{w W w3:World}{B g n c:Nat}{R:List (Value×List Nat)}(h:NFam w B g n c R)(hW:Below w.heap.size w W){s:Nat}{x:Value×List Nat}(hx:R[s]?=some x){nv:Value}{l:List Nat}
  (r1:w3.ownsRow B 3 1 nv l.length (l.map NatV)) (r2:Keeps B [3] W w3) (r3:W.grownBy w3 x.1.ownBlock∧(nv.ownBlock=x.1.ownBlock∨nv.ownBlock=some W.heap.size)):NFam (w3.setCell ⟨g,s,none⟩ nv) B g n c (R.set s (nv,l)):=by
 have hW0:=h.later hW;obtain⟨hs,hx2⟩:=sG.1 hx;have hlen:=h.len;obtain⟨cur,hcur⟩:=hW0.blk;have hc3:=r2.blk hcur (.inr (by decide));have hc:Chg (·=g) w3 (w3.setCell ⟨g,s,none⟩ nv):=Chg.set (X:=(·=g)) (Chg.refl _ w3) (p:=⟨g,s,none⟩) (.inr rfl) _;have hrow3:=r2.own hW0.row (.inr (by decide));refine⟨?_,?_,?_⟩
 ·have:=own_set hrow3 s (by omega) nv
  rw[List.map_set];exact this
 ·intro k y hy
  by_cases hk:k=s
  ·subst hk
   rw[tG hs]at hy;cases hy
   exact hc.own r1 (own_neb r1 hc3 (by decide))
  ·rw[uG (fun e=>hk e.symm)]at hy
   have hy0:=hW0.own k y hy;have hy3:w3.ownsRow B 3 1 y.1 y.2.length (y.2.map NatV):=(Chg.of_grown r3.1).own hy0 (fun b hb he=>h.apart s k x y hx hy (fun e=>hk e.symm) b he hb);exact hc.own hy3 (own_neb hy3 hc3 (by decide))
 ·intro i j a b ha hb hij k hak hbk
  have key:∀(m:Nat) (y:Value×List Nat),R[m]?=some y→m≠s→∀k,nv.ownBlock=some k→y.1.ownBlock≠some k:=fun m y hy hm k h1 h2=>by
   rcases r3.2 with e|e
   ·rw[e]at h1
    exact h.apart s m x y hx hy (fun e=>hm e.symm) k h1 h2
   ·rw[e]at h1
    cases h1
    have:=(own_lt (hW0.own m y hy) _ h2).1;omega
  by_cases hi:i=s
  ·subst hi
   rw[tG hs]at ha;cases ha
   rw[uG hij]at hb;exact key j b hb (fun e=>hij e.symm) k hak hbk
  ·rw[uG (fun e=>hi e.symm)]at ha
   by_cases hj:j=s
   ·subst hj
    rw[tG hs]at hb;cases hb
    exact key i a ha hi k hbk hak
   ·rw[uG (fun e=>hj e.symm)]at hb
    exact h.apart i j a b ha hb hij k hak hbk
theorem NFam.fresh(w:World){B n:Nat}(hB:B≤w.heap.size)(hn:n≤100000):NFam (w.alloc (.cells (Array.replicate n (.slice none 0 0)) 44)) B w.heap.size n n (List.replicate n (.slice none 0 0,[])):=by
 refine⟨⟨by simp,.inr ⟨w.heap.size,n,_,rfl,hB,Blk.new w _ _,leR _,by unfold maxLen;omega,by simp,by simp⟩⟩,fun k x hx=>?_,fun i j x y hx hy hij k hk=>?_⟩
 ·obtain⟨h1,rfl⟩:=sG.1 hx
  simp;exact⟨rfl,.inl ⟨rfl,rfl⟩⟩
 ·obtain⟨h1,rfl⟩:=sG.1 hx
  simp[Value.ownBlock]at hk
def RuleEndX(w0 w:World)(g:Gz)(k:Nat)(e:Ending)(w':World):Prop:=∃rv,e=.returned (.tuple #[.agg #[.int .i64 ((g.rule k).1:Nat),rv],.bool true])∧Nums w' rv (g.right k)∧Below w.heap.size w w'∧(k<g.R.length→Nums w0 rv (g.right k))∧(k=g.R.length→∃b,rv=.slice (some ⟨b,0,none⟩) 1 1∧w.heap.size≤b∧∃cs,Blk w' b 3 cs)
set_option maxHeartbeats 3200000 in
theorem ruleX_any{w0 w:World}{v:Value}{g:Gz}(h:GN w0 v g)(hbe:Below w0.heap.size w0 w){k:Nat}(hk:k≤g.R.length):Calls Tryz.prog 26 #[v,.int .i64 k] w (RuleEndX w0 w g k):=by
 have hf:=h.fit.nr;obtain⟨AT,cT,AN,cN,AR,cR,rfl,hc0,hcR⟩:=h.open_;have hc:∀k r,g.R[k]?=some r→∃b off rv,AR=some ⟨b,off,none⟩∧b<w.heap.size∧w.cell? ⟨b,off+k*2,none⟩=some (.int .i64 r.1)∧w.cell? ⟨b,off+k*2+1,none⟩=some rv∧Nums w rv r.2∧Nums w0 rv r.2:=fun k r hr=>by obtain⟨b,off,rv,h1,h2,h3,h4,h5⟩:=hc0 k r hr;exact⟨b,off,rv,h1,ltL h2 hbe.size,(hbe.cell (p:=⟨b,off+k*2,none⟩) h2).trans h3,(hbe.cell (p:=⟨b,off+k*2+1,none⟩) h2).trans h4,h5.later hbe,h5⟩
 clear hc0;by_cases hq:k=g.R.length
 ·have e1:g.rule k=(0,[g.s]):=by unfold Gz.rule;rw[if_pos hq]
  unfold RuleEndX Gz.right;rw[e1];clear h hc;generalize g.R.length=nR at *;subst hq;generalize g.nt=nt at *;generalize g.nn=nn at *;generalize g.s=gs at *;go_enter Tryz.func26,Tryz.ntmps26
  go_wp2_with fail
  refine bodyPost_ret (results_fst rfl rfl (load_rule (b:=w.heap.size+1) (u:=.int .i64 0) (rv:=.slice (some ⟨w.heap.size+1+1,0,none⟩) 1 1) ?_ ?_)) rfl ?_
  ·exact(Blk.alloc (Blk.newAt (by simp)) _).cell 0
  ·exact(Blk.alloc (Blk.newAt (by simp)) _).cell 1
  ·refine⟨_,rfl,?_,((below_alloc w _).alloc (by simp) _).alloc (by simp;omega) _,fun h=>absurd h (Nat.lt_irrefl _),fun _=>⟨_,rfl,by omega,_,Blk.newAt (by simp)⟩⟩
   refine nums_own (B:=0) (l:=[gs]) ?_ (by simp);refine⟨rfl,.inr ⟨w.heap.size+1+1,1,#[.int .i64 gs],rfl,zeL _,?_,by simp,by decide,rfl,rfl⟩⟩;exact Blk.newAt (by simp)
 ·obtain⟨r,hr⟩:∃r,g.R[k]?=some r:=⟨_,eG (by omega)⟩
  obtain⟨b,off,rv,rfl,hb,c0,c1,hn,hn0⟩:=hc k r hr;have e1:g.rule k=r:=by unfold Gz.rule;rw[if_neg hq,dG,hr];rfl
  unfold RuleEndX Gz.right;rw[e1];have HN:=Hd hn;have HN0:=Hd hn0;obtain⟨⟨ra,rc,rfl,-⟩,-,-⟩:=id hn;have hlt:k<g.R.length:=by omega
  clear h hc hn hr e1 hn0;obtain⟨rl,rr⟩:=r;simp only at *;generalize rr.length=rn at *;generalize g.R.length=nR at *;generalize g.nt=nt at *;generalize g.nn=nn at *;generalize g.s=gs at *;go_enter Tryz.func26,Tryz.ntmps26
  go_wp2_with fail
  refine bodyPost_ret (results_fst rfl rfl (load_rule (b:=w.heap.size+1) (u:=.int .i64 rl) (rv:=.slice ra rn rc) ?_ ?_)) rfl ?_
  ·exact(Blk.newAt (by simp)).cell 0
  ·exact(Blk.newAt (by simp)).cell 1
  ·exact⟨_,rfl,HN.out.later (((below_alloc w _).alloc (by simp) _)),((below_alloc w _).alloc (by simp) _),fun _=>HN0.out,fun h=>absurd h hq⟩
theorem ElIntsQ:El Tryz.prog 24 44 1 24:=El.of (z:=.slice none 0 0) Tryz.underlying24 (by kernel_rfl) rfl (by decide)
theorem ElTail:El Tryz.prog 230 235 2 16:=El.of (z:=.agg #[.pointer none,.bool false]) Tryz.underlying230 (by kernel_rfl) rfl (by decide)
theorem ElTailsQ:El Tryz.prog 187 230 1 24:=El.of (z:=.slice none 0 0) Tryz.underlying187 (by kernel_rfl) rfl (by decide)
abbrev MkA(v lv rv tlv uv cv bv av ev fv:Value):Array Value:=v.cells++#[lv,rv,tlv,uv,cv,bv,av,ev,fv]
def Gz.ofK(g:Gz)(k s:Nat):List Nat:=(List.range k).filter fun i=>(g.R.getD i (0,[])).1==s
theorem ofK_all(g:Gz)(s:Nat):g.ofK g.R.length s=g.ofL s:=rfl
theorem ofK_next(g:Gz)(k s:Nat):g.ofK (k+1) s=if (g.R.getD k (0,[])).1=s then g.ofK k s++[k] else g.ofK k s:=by
 unfold Gz.ofK;rw[List.range_succ,List.filter_append];by_cases h:(g.R.getD k (0,[])).1=s
 ·have h2:((g.R.getD k (0,[])).1==s)=true:=beq_iff_eq.2 h
  rw[if_pos h];simp only[List.filter_cons,h2,List.filter_nil,if_true]
 ·have h2:((g.R.getD k (0,[])).1==s)=false:=beq_false_of_ne h
  rw[if_neg h];simp only[List.filter_cons,h2,List.filter_nil,Bool.false_eq_true,if_false,List.append_nil]
theorem ofK_len(g:Gz)(k s:Nat):(g.ofK k s).length≤k:=by unfold Gz.ofK;have:=List.length_filter_le (fun i=>(g.R.getD i (0,[])).1==s) (List.range k);rwa [List.length_range]at this
theorem lists_next{g:Gz}{k N s:Nat}(hl:(g.R.getD k (0,[])).1=s):((List.range N).map (g.ofK k)).set s (g.ofK k s++[k])=(List.range N).map (g.ofK (k+1)):=by
 apply List.ext_getElem?;intro i;rw[List.getElem?_set];by_cases hi:s=i
 ·subst hi
  rw[if_pos rfl,lM,List.length_range,pG];by_cases hn:s<N
  ·rw[if_pos hn,List.getElem?_range hn,Option.map_some,ofK_next,if_pos hl]
  ·rw[if_neg hn,nG (by simp;omega)];rfl
 ·rw[if_neg hi,pG,pG]
  cases hq:(List.range N)[i]? with
  | none=>rfl
  | some j=>
   have hj:j=i:=by obtain⟨h1,h2⟩:=sG.1 hq;rw[List.getElem_range]at h2;exact h2.symm
   subst hj;rw[Option.map_some,Option.map_some,ofK_next,if_neg (by omega)]
theorem NumsA.mono{A A':Nat→Prop}{w:World}{v:Value}{l:List Nat}(h:NumsA A w v l)(hA:∀b,A b→A' b):NumsA A' w v l:=⟨h.1,fun b hb hl=>hA b (h.2 b hb hl)⟩
theorem RowA.mono{A A':Nat→Prop}{w:World}{v:Value}{n sz:Nat}{f f':Nat→Nat→Value→Prop}(h:RowA A w v n sz f)(hA:∀b,A b→A' b)(hf:∀k j x,k<n→j<sz→f k j x→f' k j x):RowA A' w v n sz f':=by obtain⟨Ad,c,hv,hn,hm,hr⟩:=h;refine⟨Ad,c,hv,hn,hm,fun k hk=>?_⟩;obtain⟨b,off,hAd,hb,hlt,hx⟩:=hr k hk;refine⟨b,off,hAd,hA b hb,hlt,fun j hj=>?_⟩;obtain⟨x,h1,h2⟩:=hx j hj;exact⟨x,h1,hf k j x hk hj h2⟩
theorem RtsA.mono{A A':Nat→Prop}{w:World}{v:Value}{n:Nat}{f:Nat→List Nat}(h:RtsA A w v n f)(hA:∀b,A b→A' b):RtsA A' w v n f:=RowA.mono h hA (fun k j x _ _ hx=>hx.mono hA)
theorem TlA.mono{A A':Nat→Prop}{w:World}{m:Nat}{v:Value}{l:List (Nat×Bool)}(h:TlA A w m v l)(hA:∀b,A b→A' b):TlA A' w m v l:=RowA.mono h hA (fun k j x _ _ hx=>by
 split at hx
 ·rename_i hj
  rw[if_pos hj];obtain⟨h,h1,h2,h3,h4,h5⟩:=hx;exact⟨h,h1,h2,h3,hA _ h4,hA _ h5⟩
 ·rename_i hj
  rw[if_neg hj];exact hx)
theorem TlsA.mono{A A':Nat→Prop}{w:World}{m:Nat}{v:Value}{n:Nat}{T:List (List (Nat×Bool))}(h:TlsA A w m v n T)(hA:∀b,A b→A' b):TlsA A' w m v n T:=RowA.mono h hA (fun k j x _ _ hx=>hx.mono hA)
theorem CmA.mono{A A':Nat→Prop}{w:World}{m:Nat}{v:Value}{l:List Come}(h:CmA A w m v l)(hA:∀b,A b→A' b):CmA A' w m v l:=RowA.mono h hA (fun k j x _ _ hx=>by
 split at hx
 ·rename_i hj
  rw[if_pos hj];exact hx
 ·rename_i hj
  rw[if_neg hj];split at hx
  ·rename_i hj2
   rw[if_pos hj2];obtain⟨h,h1,h2,h3,h4,h5⟩:=hx;exact⟨h,h1,h2,h3,hA _ h4,hA _ h5⟩
  ·rename_i hj2
   rw[if_neg hj2];exact hx)
theorem own_no{X:Nat→Prop}{w:World}{B:Nat}{e:TypeId}{size n:Nat}{v:Value}{xs:List Value}(h:w.ownsRow B e size v n xs)(hX:∀b cs,Blk w b e cs→¬X b):∀k,v.ownBlock=some k→¬X k:=by
 intro k hk;rcases own_form h with⟨rfl,_⟩|⟨b,c,rfl,_,_,_,_,cur,hb⟩
 ·cases hk
 ·cases hk
  exact hX _ _ hb
theorem RowA.own1{A:Nat→Prop}{w:World}{B:Nat}{e:TypeId}{n:Nat}{v:Value}{XS:List Value}{f:Nat→Nat→Value→Prop}(h:w.ownsRow B e 1 v n XS)(hn:n≤1000000)(hA:∀b,B≤b→b<w.heap.size→A b)(hf:∀i x,XS[i]?=some x→f i 0 x):RowA A w v n 1 f:=by
 rcases own_form h with⟨rfl,rfl⟩|⟨b,c,rfl,h1,h2,h3,_,_⟩
 ·exact⟨none,0,rfl,leR _,by omega,fun k hk=>by omega⟩
 ·refine⟨_,c,rfl,h3,hn,fun k hk=>⟨b,0,rfl,hA b h1 h2,h2,fun j hj=>?_⟩⟩
  obtain rfl:j=0:=by omega
  have hl:=h.1;have hx:XS[k]?=some (XS[k]'(by omega)):=eG (by omega);refine⟨_,?_,hf k _ hx⟩;rw[Nat.zero_add,Nat.add_zero,Nat.mul_one,own_cell h k (by omega),hx]
section
variable {w0 w w':World} {F:Fs} {g:Gz} {E:Nat} {C:List Nat}
theorem FStat.chgT{X:Nat→Prop}(h:FStat w0 w F g E C)(hc:Chg X w w')(hX:∀b,X b→w0.heap.size≤b∧∃t cs,Blk w b t cs∧t≠279∧t≠161∧t≠156∧t≠90):FStat w0 w' F g E C:=by
 have key:∀{b:Nat} {t:TypeId} {cs:Array Value},Blk w b t cs→(t=279∨t=161∨t=156∨t=90)→¬X b:=fun hb ht hx=>by
  obtain⟨_,t',cs',hb',n1,n2,n3,n4⟩:=hX _ hx;rcases ht with rfl|rfl|rfl|rfl
  ·exact Blk.ne_ hb hb' (Ne.symm n1) rfl
  ·exact Blk.ne_ hb hb' (Ne.symm n2) rfl
  ·exact Blk.ne_ hb hb' (Ne.symm n3) rfl
  ·exact Blk.ne_ hb hb' (Ne.symm n4) rfl
 have ks:∀{s:SetH} {S:Nat},SetAt w s S→SetAt w' s S:=fun hs=>hs.chg hc (key hs.head (.inr (.inl rfl))) (key hs.words (.inr (.inr (.inl rfl))))
 refine⟨⟨hc.blk h.at_.blk (key h.at_.blk (.inl rfl)),ks h.at_.e,h.at_.en,h.at_.plen,hc.own h.at_.bv (own_no h.at_.bv fun b cs hb=>key hb (.inr (.inr (.inr rfl)))),hc.own h.at_.hv (own_no h.at_.hv fun b cs hb=>key hb (.inr (.inr (.inr rfl)))),h.at_.top⟩,⟨h.fam.len,h.fam.room,fun i p hp=>ks (h.fam.at_ i p hp),h.fam.apart⟩,h.ne,h.new,h.below.trans (hc.below h.below.size fun k hk hx=>by have:=(hX k hx).1;omega)⟩
theorem FStat.far{w1:World}(h:FStat w w1 F g E C)(hb:Below w0.heap.size w0 w):FStat w0 w1 F g E C:=by have hs:=hb.size;obtain⟨n1,n2,n3,n4⟩:=h.new;exact⟨h.at_,h.fam,h.ne,⟨by omega,by omega,by omega,fun p hp=>by have:=n4 p hp;omega⟩,hb.trans (h.below.mono hs)⟩
end
def ArB(w0 w wr:World)(k n b:Nat):Prop:=b<w0.heap.size∨(n<k∧w.heap.size≤b∧∃cs,Blk wr b 3 cs)
def AtB(lo hi:Nat)(wr:World)(b:Nat):Prop:=lo≤b∧b<hi∧∃t cs,Blk wr b t cs∧(t=235∨t=161∨t=156)
structure Fine(w0 w wr:World)(F:Fs)(g:Gz)(E:Nat)(C:List Nat)(RV TV:List Value)(T:List (List (Nat×Bool))):Prop where
 below:Below w0.heap.size w0 wr
 size:w.heap.size≤wr.heap.size
 base:w0.heap.size≤w.heap.size
 fst:FStat w0 wr F g E C
 rts:∀(i:Nat) (x:Value),RV[i]?=some x→NumsA (ArB w0 w wr RV.length g.R.length) wr x (g.right i)
 tls:∀(i:Nat) (x:Value),TV[i]?=some x→TlA (AtB w.heap.size wr.heap.size wr) wr (g.nt+1) x (T.getD i [])
section
variable {w0 w wr w2 w3:World} {F:Fs} {g:Gz} {E:Nat} {C:List Nat} {RV TV:List Value} {T:List (List (Nat×Bool))}
theorem Fine.keep{X:Nat→Prop}(h:Fine w0 w wr F g E C RV TV T)(hc:Chg X wr w2)(hX:∀b,X b→w0.heap.size≤b∧∃t cs,Blk wr b t cs∧t≠279∧t≠161∧t≠156∧t≠90∧t≠235∧(t=3→RV.length≤g.R.length)):Fine w0 w w2 F g E C RV TV T:=by
 have hs:=hc.size;have hs0:=h.size;refine⟨h.below.trans (hc.below h.below.size fun k hk hx=>by have:=(hX k hx).1;omega),by omega,h.base,h.fst.chgT hc fun b hb=>?_,fun i x hx=>?_,fun i x hx=>?_⟩
 ·obtain⟨h1,t,cs,h2,n1,n2,n3,n4,_⟩:=hX b hb
  exact⟨h1,t,cs,h2,n1,n2,n3,n4⟩
 ·have no:∀b,ArB w0 w wr RV.length g.R.length b→¬X b:=fun b hb hx=>by
   obtain⟨h1,t,cs,h2,_,_,_,_,_,n6⟩:=hX b hx;rcases hb with hb|⟨hb1,hb2,cs',hb3⟩
   ·omega
   ·by_cases ht:t=3
    ·have:=n6 ht;omega
    ·exact Blk.ne_ h2 hb3 ht rfl
  refine((h.rts i x hx).chg hc no).mono fun b hb=>?_
  rcases id hb with hb1|⟨hb1,hb2,cs',hb3⟩
  ·exact .inl hb1
  ·exact .inr ⟨hb1,hb2,cs',hc.blk hb3 (no b hb)⟩
 ·have no:∀b,AtB w.heap.size wr.heap.size wr b→¬X b:=fun b hb hx=>by
   obtain⟨h1,t,cs,h2,n1,n2,n3,n4,n5,n6⟩:=hX b hx;obtain⟨_,_,t',cs',hb3,ht⟩:=hb;rcases ht with rfl|rfl|rfl
   ·exact Blk.ne_ h2 hb3 n5 rfl
   ·exact Blk.ne_ h2 hb3 n2 rfl
   ·exact Blk.ne_ h2 hb3 n3 rfl
  refine((h.tls i x hx).chg hc no).mono fun b hb=>?_
  obtain⟨a1,a2,t',cs',hb3,ht⟩:=id hb;exact⟨a1,by omega,t',cs',hc.blk hb3 (no b hb),ht⟩
theorem Fine.later(h:Fine w0 w wr F g E C RV TV T)(hb:Below wr.heap.size wr w2):Fine w0 w w2 F g E C RV TV T:=h.keep (X:=fun _=>False) (Chg.of_below hb) (fun b hb=>hb.elim)
structure Mps(w0 w wr:World)(F:Fs)(g:Gz)(E:Nat)(C:List Nat)(rv tlv:Value)(ub uc kr:Nat)(RV TV:List Value)(R:List (Value×List Nat))(T:List (List (Nat×Bool))):Prop where
 fine:Fine w0 w wr F g E C RV TV T
 rrow:wr.ownsRow w.heap.size 44 1 rv RV.length RV
 fam:NFam wr w.heap.size ub (g.top+1) uc R
 lists:R.map (·.2)=(List.range (g.top+1)).map (g.ofK kr)
 trow:wr.ownsRow w.heap.size 230 1 tlv TV.length TV
 ne:rv.ownBlock≠some ub
variable {rv tlv:Value} {ub uc kr:Nat} {R:List (Value×List Nat)}
theorem Mps.later(h:Mps w0 w wr F g E C rv tlv ub uc kr RV TV R T)(hb:Below wr.heap.size wr w2):Mps w0 w w2 F g E C rv tlv ub uc kr RV TV R T:=
 ⟨h.fine.later hb,own_below h.rrow hb,h.fam.later hb,h.lists,own_below h.trow hb,h.ne⟩
theorem Mps.farT(h:Mps w0 w wr F g E C rv tlv ub uc kr RV TV R T){mb:Nat}{t:TypeId}{cs:Array Value}(hm:Blk wr mb t cs)(h0:w0.heap.size≤mb)(n1:t≠279)(n2:t≠161)(n3:t≠156)(n4:t≠90)(n5:t≠235)(n6:t≠3)(n7:t≠44)(n8:t≠230)(j:Nat)(u:Value):Mps w0 w (wr.setCell ⟨mb,j,none⟩ u) F g E C rv tlv ub uc kr RV TV R T:=by
 have hc:Chg (·=mb) wr (wr.setCell ⟨mb,j,none⟩ u):=Chg.set (X:=(·=mb)) (Chg.refl _ wr) (p:=⟨mb,j,none⟩) (.inr rfl) _;have no:∀{b:Nat} {t':TypeId} {cs:Array Value},Blk wr b t' cs→t≠t'→¬b=mb:=fun hb ht e=>by subst e;exact Blk.ne_ hm hb ht rfl
 refine⟨h.fine.keep hc fun b hb=>?_,hc.own h.rrow (own_no h.rrow fun b cs hb=>no hb n7),h.fam.chg hc ?_ (fun k x hx=>own_no (h.fam.own k x hx) fun b cs hb=>no hb n6),h.lists,hc.own h.trow (own_no h.trow fun b cs hb=>no hb n8),h.ne⟩
 ·subst hb
  exact⟨h0,_,_,hm,n1,n2,n3,n4,n5,fun e=>absurd e n6⟩
 ·obtain⟨cur,hcur⟩:=h.fam.blk
  exact no hcur n7
theorem Mps.far(h:Mps w0 w wr F g E C rv tlv ub uc kr RV TV R T){mb:Nat}{cs:Array Value}(hm:Blk wr mb 192 cs)(h0:w0.heap.size≤mb)(j:Nat)(u:Value):Mps w0 w (wr.setCell ⟨mb,j,none⟩ u) F g E C rv tlv ub uc kr RV TV R T:=
 h.farT hm h0 (by decide) (by decide) (by decide) (by decide) (by decide) (by decide) (by decide) (by decide) j u
theorem Mps.righted(h:Mps w0 w wr F g E C rv tlv ub uc kr RV TV R T)(hk:RV.length≤g.R.length){x:Value}{A:Option Addr}{c:Nat}(r1:w3.ownsRow w.heap.size 44 1 (.slice A (RV.length+1) c) (RV.length+1) (RV++[x]))(r3:wr.grownBy w3 rv.ownBlock∧((Value.slice A (RV.length+1) c).ownBlock=rv.ownBlock∨(Value.slice A (RV.length+1) c).ownBlock=some wr.heap.size))
  (hx:Nums wr x (g.right RV.length)) (hx0:RV.length<g.R.length→Nums w0 x (g.right RV.length)) (hx1:RV.length=g.R.length→∃b,x=.slice (some ⟨b,0,none⟩) 1 1∧w.heap.size≤b∧∃cs,Blk wr b 3 cs):Mps w0 w w3 F g E C (.slice A (RV.length+1) c) tlv ub uc kr (RV++[x]) TV R T:=by
 have hc:Chg (fun k=>rv.ownBlock=some k) wr w3:=Chg.of_grown r3.1;have hX:∀b,rv.ownBlock=some b→w0.heap.size≤b∧∃cs,Blk wr b 44 cs:=fun b hb=>by
  rcases own_form h.rrow with⟨h1,_⟩|⟨b',c',h1,h2,_,_,_,cur,h3⟩
  ·rw[h1]at hb;cases hb
  ·rw[h1]at hb
   have e:b'=b:=by simpa [Value.ownBlock] using hb
   subst e;exact⟨leT h.fine.base h2,cur,h3⟩
 have no:∀{b:Nat} {t:TypeId} {cs:Array Value},Blk wr b t cs→t≠44→¬rv.ownBlock=some b:=fun hb ht e=>by obtain⟨_,cs,h2⟩:=hX _ e;exact Blk.ne_ hb h2 ht rfl
 have hf:=h.fine.keep hc fun b hb=>by obtain⟨h1,cs,h2⟩:=hX b hb;exact⟨h1,_,cs,h2,by decide,by decide,by decide,by decide,by decide,fun e=>by cases e⟩
 obtain⟨cur,hcur⟩:=h.fam.blk;refine⟨⟨hf.below,hf.size,hf.base,hf.fst,fun i y hy=>?_,hf.tls⟩,by simpa using r1,h.fam.chg hc (fun e=>h.ne e) (fun k x hx=>own_no (h.fam.own k x hx) fun b cs hb=>no hb (by decide)),h.lists,hc.own h.trow (own_no h.trow fun b cs hb=>no hb (by decide)),?_⟩
 ·by_cases hi:i<RV.length
  ·rw[gL hi]at hy
   refine(hf.rts i y hy).mono fun b hb=>?_
   rcases hb with hb|⟨h1,_⟩
   ·exact .inl hb
   ·omega
  ·have hl:=(sG.1 hy).1
   simp at hl;obtain rfl:i=RV.length:=by omega
   simp at hy;subst hy;rcases Nat.lt_or_ge RV.length g.R.length with hlt|hge
   ·have h0:=hx0 hlt
    refine⟨h0.later hf.below,fun b hb hl=>.inl ?_⟩;obtain⟨⟨Ad,c',hv,hcc⟩,_,_⟩:=h0;obtain⟨b2,off,hA2,hlt2,_⟩:=hcc 0 _ (eG hl);rw[hv,hA2]at hb;have e:b2=b:=by simpa [Value.ownBlock] using hb
    omega
   ·obtain⟨b,rfl,hb1,cs,hb2⟩:=hx1 (by omega)
    have hb3:=hc.blk hb2 (no hb2 (by decide));have hnum:NumsA (fun q=>q=b) wr (.slice (some ⟨b,0,none⟩) 1 1) (g.right RV.length):=⟨hx,fun q hq _=>by
     have e:b=q:=by simpa [Value.ownBlock] using hq
     exact e.symm⟩
    refine(hnum.chg hc fun q hq=>by subst hq;exact no hb2 (by decide)).mono fun q hq=>?_
    subst hq;exact .inr ⟨by simp;omega,hb1,cs,hb3⟩
 ·rcases r3.2 with e|e
  ·rw[e];exact h.ne
  ·rw[e]
   intro e2;have e3:wr.heap.size=ub:=by simpa using e2
   have:=hcur.lt;omega
theorem Mps.ruled(h:Mps w0 w wr F g E C rv tlv ub uc kr RV TV R T)(hk:RV.length≤g.R.length){s:Nat}{x:Value×List Nat}(hx:R[s]?=some x)(hs:(g.R.getD kr (0,[])).1=s){nv:Value}{W:World}(hW:Below wr.heap.size wr W)
  (r1:w3.ownsRow w.heap.size 3 1 nv (x.2.length+1) (x.2.map NatV++[.int .i64 (kr:Nat)])) (r2:Keeps w.heap.size [3] W w3) (r3:W.grownBy w3 x.1.ownBlock∧(nv.ownBlock=x.1.ownBlock∨nv.ownBlock=some W.heap.size)):∃R',Mps w0 w (w3.setCell ⟨ub,s,none⟩ nv) F g E C rv tlv ub uc (kr+1) RV TV R' T:=by
 have hW0:=h.later hW;have hc:Chg (fun k=>x.1.ownBlock=some k) W w3:=Chg.of_grown r3.1;have hox:=hW0.fam.own s x hx;have hX:∀b,x.1.ownBlock=some b→w0.heap.size≤b∧∃cs,Blk W b 3 cs:=fun b hb=>by
  rcases own_form hox with⟨h1,_⟩|⟨b',c',h1,h2,_,_,_,cur,h3⟩
  ·rw[h1]at hb;cases hb
  ·rw[h1]at hb
   have e:b'=b:=by simpa [Value.ownBlock] using hb
   subst e;exact⟨leT h.fine.base h2,cur,h3⟩
 have no:∀{b:Nat} {t:TypeId} {cs:Array Value},Blk W b t cs→t≠3→¬x.1.ownBlock=some b:=fun hb ht e=>by obtain⟨_,cs,h2⟩:=hX _ e;exact Blk.ne_ hb h2 ht rfl
 have hf:=hW0.fine.keep hc fun b hb=>by obtain⟨h1,cs,h2⟩:=hX b hb;exact⟨h1,_,cs,h2,by decide,by decide,by decide,by decide,by decide,fun _=>hk⟩
 have hfam:=h.fam.put hW hx (nv:=nv) (l:=x.2++[kr]) (by rw[lnA,mpA];exact r1) r2 r3;obtain⟨cur,hcur⟩:=hW0.fam.blk;have hub:w.heap.size≤ub:=(own_lt h.fam.row ub rfl).2;have hcur3:Blk w3 ub 44 cur:=hc.blk hcur (no hcur (by decide));have hcs:Chg (·=ub) w3 (w3.setCell ⟨ub,s,none⟩ nv):=Chg.set (X:=(·=ub)) (Chg.refl _ w3) (p:=⟨ub,s,none⟩) (.inr rfl) _;have hrrow3:=hc.own hW0.rrow (own_no hW0.rrow fun b cs hb=>no hb (by decide));have htrow3:=hc.own hW0.trow (own_no hW0.trow fun b cs hb=>no hb (by decide));refine⟨R.set s (nv,x.2++[kr]),hf.keep hcs fun b hb=>?_,hcs.own hrrow3 (fun k hk e=>h.ne (by rw[hk,e])),hfam,?_,hcs.own htrow3 (own_no htrow3 fun b cs hb e=>by subst e;exact Blk.ne_ hb hcur3 (by decide) rfl),h.ne⟩
 ·subst hb
  have:=h.fine.base;exact⟨by omega,_,_,hcur3,by decide,by decide,by decide,by decide,by decide,fun e=>by cases e⟩
 ·have h2:x.2=g.ofK kr s:=by
   have h3:(R.map (·.2))[s]?=some x.2:=by rw[pG,hx];rfl
   rw[h.lists,pG]at h3;cases hq:(List.range (g.top+1))[s]? with
   | none=>rw[hq]at h3;cases h3
   | some j=>rw[hq]at h3;obtain⟨h4,h5⟩:=sG.1 hq;rw[List.getElem_range]at h5;subst h5;simpa using h3.symm
  rw[List.map_set,h.lists,←lists_next hs,h2]
theorem Mps.tailed(h:Mps w0 w wr F g E C rv tlv ub uc kr RV TV R T){x:Value}{l:List (Nat×Bool)}{A:Option Addr}{c:Nat}(r1:w3.ownsRow w.heap.size 230 1 (.slice A (TV.length+1) c) (TV.length+1) (TV++[x]))(r3:wr.grownBy w3 tlv.ownBlock)
  (hx:TlA (AtB w.heap.size wr.heap.size wr) wr (g.nt+1) x l) (hT:T.length=TV.length):Mps w0 w w3 F g E C rv (.slice A (TV.length+1) c) ub uc kr RV (TV++[x]) R (T++[l]):=by
 have hc:Chg (fun k=>tlv.ownBlock=some k) wr w3:=Chg.of_grown r3;have hX:∀b,tlv.ownBlock=some b→w0.heap.size≤b∧∃cs,Blk wr b 230 cs:=fun b hb=>by
  rcases own_form h.trow with⟨h1,_⟩|⟨b',c',h1,h2,_,_,_,cur,h3⟩
  ·rw[h1]at hb;cases hb
  ·rw[h1]at hb
   have e:b'=b:=by simpa [Value.ownBlock] using hb
   subst e;exact⟨leT h.fine.base h2,cur,h3⟩
 have no:∀{b:Nat} {t:TypeId} {cs:Array Value},Blk wr b t cs→t≠230→¬tlv.ownBlock=some b:=fun hb ht e=>by obtain⟨_,cs,h2⟩:=hX _ e;exact Blk.ne_ hb h2 ht rfl
 have hf:=h.fine.keep hc fun b hb=>by obtain⟨h1,cs,h2⟩:=hX b hb;exact⟨h1,_,cs,h2,by decide,by decide,by decide,by decide,by decide,fun e=>by cases e⟩
 obtain⟨cur,hcur⟩:=h.fam.blk;refine⟨⟨hf.below,hf.size,hf.base,hf.fst,hf.rts,fun i y hy=>?_⟩,hc.own h.rrow (own_no h.rrow fun b cs hb=>no hb (by decide)),h.fam.chg hc (no hcur (by decide)) (fun k x hx=>own_no (h.fam.own k x hx) fun b cs hb=>no hb (by decide)),h.lists,by simpa using r1,h.ne⟩;by_cases hi:i<TV.length
 ·rw[gL hi]at hy
  rw[dG,gL (by omega),←dG];exact hf.tls i y hy
 ·have hl:=(sG.1 hy).1
  simp at hl;obtain rfl:i=TV.length:=by omega
  simp at hy;subst hy;rw[dG,←hT];simp only[List.getElem?_concat_length,Option.getD_some];have no2:∀b,AtB w.heap.size wr.heap.size wr b→¬tlv.ownBlock=some b:=fun b hb=>by
   obtain⟨_,_,t',cs',hb3,ht⟩:=hb;rcases ht with rfl|rfl|rfl
   ·exact no hb3 (by decide)
   ·exact no hb3 (by decide)
   ·exact no hb3 (by decide)
  have hs:=hc.size;refine(hx.chg hc no2).mono fun b hb=>?_
  obtain⟨a1,a2,t',cs',hb3,ht⟩:=id hb;exact⟨a1,by omega,t',cs',hc.blk hb3 (no2 b hb),ht⟩
def Stl(w0 w wr:World)(b:Nat):Prop:=(b<w0.heap.size∨w.heap.size≤b)∧b<wr.heap.size
theorem Mps.done(h:Mps w0 w wr F g E C rv tlv ub uc g.R.length RV TV R T)(h1:RV.length=g.R.length+1)(h2:TV.length=g.R.length+1)(hn:g.R.length≤300)(ht:g.top≤1000) :
  RtsA (Stl w0 w wr) wr rv (g.R.length+1) g.right∧TlsA (Stl w0 w wr) wr (g.nt+1) tlv (g.R.length+1) T∧RtsA (Stl w0 w wr) wr (.slice (some ⟨ub,0,none⟩) (g.top+1) uc) (g.top+1) g.ofL:=by
 have hst:∀b,w.heap.size≤b→b<wr.heap.size→Stl w0 w wr b:=fun b a1 a2=>⟨.inr a1,a2⟩
 have r1:=h.rrow;have r2:=h.trow;rw[h1]at r1;rw[h2]at r2;have hbs:=h.fine.below.size;refine⟨RowA.own1 r1 (by omega) hst fun i x hx=>(h.fine.rts i x hx).mono fun b hb=>?_,RowA.own1 r2 (by omega) hst fun i x hx=>(h.fine.tls i x hx).mono fun b hb=>hst b hb.1 hb.2.1,RowA.own1 h.fam.row (by omega) hst fun i x hx=>?_⟩
 ·rcases hb with hb|⟨_,hb,cs,hb2⟩
  ·exact⟨.inl hb,by omega⟩
  ·exact hst b hb hb2.lt
 ·rw[pG]at hx
  cases hq:R[i]? with
  | none=>rw[hq]at hx;cases hx
  | some y=>
   rw[hq]at hx;cases hx
   have ho:=h.fam.own i y hq;have h3:(R.map (·.2))[i]?=some y.2:=by rw[pG,hq];rfl
   rw[h.lists,pG]at h3;have h4:y.2=g.ofL i:=by
    cases hq2:(List.range (g.top+1))[i]? with
    | none=>rw[hq2]at h3;cases h3
    | some j=>rw[hq2]at h3;obtain⟨h4,h5⟩:=sG.1 hq2;rw[List.getElem_range]at h5;subst h5;rw[←ofK_all];simpa using h3.symm
   have hlen:y.2.length≤300:=by rw[h4];exact leT (ofL_len g i) hn
   show NumsA _ wr y.1 (g.ofL i);rw[←h4];refine⟨nums_own ho (by omega),fun b hb _=>?_⟩;obtain⟨a1,a2⟩:=own_lt ho b hb;exact hst b a2 a1
end
end Go.Proofs.YthaacmablcpdfaaGreatDoor
