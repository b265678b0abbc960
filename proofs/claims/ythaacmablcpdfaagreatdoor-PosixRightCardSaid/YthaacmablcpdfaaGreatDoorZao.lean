/- Items. The symbol behind a dot. A nonterminal's items. Rows of items without those that stand twice. -/
import Derived.Test.YthaacmablcpdfaaGreatDoorZan
import Derived.Deep.RegionHeld3
import Derived.Laws.StructEq
import Derived.Lib.SliceRun
import Derived.Test.YthaacmablcpdfaaGreatDoorNm
namespace Go.Proofs.YthaacmablcpdfaaGreatDoor
open Go.RowKit
set_option linter.unusedVariables false
set_option maxRecDepth 100000
def itC(x:It):List Value:=[.int .i64 x.1,.int .i64 x.2]
def itV(x:It):Value:=.agg #[.int .i64 x.1,.int .i64 x.2]
namespace Gz
def next(g:Gz)(x:It):Nat:=(g.right x.1).getD x.2 0
def rulesI(g:Gz)(s:Nat):List It:=(g.ofL s).map fun k=>(k,0)
end Gz
structure Prs(w:World)(v:Value)(l:List It):Prop where
 lies:∃A c,v=.slice A l.length c∧∀k x,l[k]?=some x→∃b off,A=some ⟨b,off,none⟩∧b<w.heap.size∧w.cell? ⟨b,off+k*2,none⟩=some (.int .i64 x.1)∧w.cell? ⟨b,off+k*2+1,none⟩=some (.int .i64 x.2)
 short:l.length≤4611686018427387904
 room:∀A n c,v=.slice A n c→n≤c∧(A=none→c=0)
theorem Prs.later{w w':World}{v:Value}{l:List It}(h:Prs w v l)(hb:Below w.heap.size w w'):Prs w' v l:=by obtain⟨⟨A,c,hv,hc⟩,hs,hro⟩:=h;refine⟨⟨A,c,hv,fun k x hx=>?_⟩,hs,hro⟩;obtain⟨b,off,hA,hlt,h1,h2⟩:=hc k x hx;exact⟨b,off,hA,ltL hlt hb.size,(hb.cell (p:=⟨b,off+k*2,none⟩) hlt).trans h1,(hb.cell (p:=⟨b,off+k*2+1,none⟩) hlt).trans h2⟩
theorem Prs.own{w:World}{B:Nat}{e:TypeId}{v:Value}{l:List It}(h:w.ownsRow B e 2 v l.length (l.flatMap itC))(hl:l.length≤4611686018427387904):Prs w v l:=by
 rcases own_form h with⟨rfl,h0⟩|⟨b,c,rfl,h1,h2,h3,h4,_⟩
 ·exact⟨⟨none,0,by rw[h0],fun k x hx=>by have:=(sG.1 hx).1;omega⟩,hl,fun A n c e=>by cases e;exact⟨leR _,fun _=>rfl⟩⟩
 ·refine⟨⟨_,c,rfl,fun k x hx=>⟨b,0,rfl,h2,?_,?_⟩⟩,hl,fun A n c' e=>by cases e;exact⟨h3,fun e=>by cases e⟩⟩
  ·obtain⟨hk,hx2⟩:=sG.1 hx
   have:=fm_get itC 2 (fun _=>rfl) l k 0 hk (by omega);rw[hx2,Nat.add_zero]at this;rw[Nat.zero_add,own_cell h (k*2) (by omega),this];rfl
  ·obtain⟨hk,hx2⟩:=sG.1 hx
   have:=fm_get itC 2 (fun _=>rfl) l k 1 hk (by omega);rw[hx2]at this;rw[Nat.zero_add,own_cell h (k*2+1) (by omega),this];rfl
structure BG(w:World)(bb:Nat)(v:Value)(g:Gz):Prop where
 gn:GN w v g
 cell:∀j,j<4→w.cell? ⟨bb,j,none⟩=v.cells[j]?
theorem ElItem:El Tryz.prog 68 194 2 16:=El.of (z:=.agg #[.int .i64 0,.int .i64 0]) Tryz.underlying68 (by kernel_rfl) rfl (by decide)
theorem cmp_any(w:World)(x y:It)(hx:x.1≤100000∧x.2≤100000)(hy:y.1≤100000∧y.2≤100000):Calls Tryz.prog 194 #[itV x,itV y] w fun e w'=>e=.returned (.int .i64 (if x.1=y.1 then(x.2:Int)-y.2 else(x.1:Int)-y.1))∧w'=(w.alloc (.cells #[.int .i64 x.1,.int .i64 x.2] 194)).alloc (.cells #[.int .i64 y.1,.int .i64 y.2] 194):=by
 obtain⟨a,b⟩:=x;obtain⟨c,d⟩:=y;simp only at hx hy;unfold itV;simp only;by_cases h:a=c
 ·rw[if_pos h]
  subst h;go_enter Tryz.func194,Tryz.ntmps194
  go_wp2;go_ret;exact⟨by rfl,rfl⟩
 ·rw[if_neg h]
  have hq:((a:Int) != (c:Int))=true:=by rw[bne_iff_ne];omega
  go_enter Tryz.func194,Tryz.ntmps194
  go_wp2;go_ret;exact⟨by rfl,rfl⟩
theorem may_any{w:World}{v:Value}{g:Gz}(h:GN w v g):Calls Tryz.prog 147 #[v] w fun e w'=>e=.returned (.bool true)∧Below w.heap.size w w':=by
 have HC:=Hd (fun y (hy:Below w.heap.size w y)=>checkN_any (h.later hy));have HG:=Hd (Blk.new w 32 v.cells);obtain⟨AT,cT,AN,cN,AR,cR,rfl,hc,hcR⟩:=h.open_;clear h hc;go_enter Tryz.func147,Tryz.ntmps147
 go_wp2_with (go_at_call 35;refine(HC.out _ (below_alloc _ _)).mono ?_;rintro e w' ⟨rfl,hb'⟩;have HB':=Hd (below_alloc_trans hb');clear hb')
 go_ret;exact⟨rfl,HB'.out⟩
theorem begin_any{w:World}{v:Value}{g:Gz}(h:GN w v g):Calls Tryz.prog 109 #[v] w fun e w'=>∃A c,e=.returned (.slice A 1 c)∧w'.ownsRow w.heap.size 194 2 (.slice A 1 c) 1 (itC (g.R.length,0))∧Below w.heap.size w w':=by
 have HC:=Hd (fun y (hy:Below w.heap.size w y)=>may_any (h.later hy));obtain⟨AT,cT,AN,cN,AR,cR,rfl,hc,hcR⟩:=h.open_;have HG:=Hd (Blk.new w 32 #[.slice AT g.nt cT,.slice AN g.nn cN,.slice AR g.R.length cR,.int .i64 g.s]);clear h hc;go_enter Tryz.func109,Tryz.ntmps109
 go_wp2_with (go_at_call 147;refine(HC.out _ (below_alloc _ _)).mono ?_;rintro e w1 ⟨rfl,hb'⟩;have HB':=Hd (below_alloc_trans hb');have HGX:=Hd (HG.out.below hb' HG.out.lt);have g2:=HGX.out.cell 2;simp at g2;clear hb')
 go_ret;refine⟨_,_,rfl,?_,HB'.out.alloc HB'.out.size _⟩;refine⟨rfl,.inr ⟨w1.heap.size,1,#[.int .i64 g.R.length,.int .i64 0],rfl,HB'.out.size,Blk.newAt rfl,by simp,by decide,rfl,rfl⟩⟩
theorem BG.later{w w':World}{bb:Nat}{v:Value}{g:Gz}(h:BG w bb v g)(hb:Below w.heap.size w w'):BG w' bb v g:=by
 refine⟨h.gn.later hb,fun j hj=>?_⟩;have hc:=h.cell j hj;obtain⟨AT,cT,AN,cN,AR,cR,rfl,-⟩:=h.gn.open_;have hlt:bb<w.heap.size:=by have h0:=h.cell 0 (by omega);exact World.block_lt_of_cell? w _ h0
 exact(hb.cell (p:=⟨bb,j,none⟩) hlt).trans hc
structure Aut(w:World)(v:Value)(V:List (Value×Value))(L E:List (List It)):Prop where
 lies:∃A c,v=.slice A V.length c∧V.length≤c∧∀(k:Nat) (x:Value×Value),V[k]?=some x→∃b off,A=some ⟨b,off,none⟩∧b<w.heap.size∧w.cell? ⟨b,off+k*2,none⟩=some x.1∧w.cell? ⟨b,off+k*2+1,none⟩=some x.2
 len:L.length=V.length∧E.length=V.length
 items:∀(k:Nat) (x:Value×Value) (l:List It),V[k]?=some x→L[k]?=some l→Prs w x.1 l
 trans:∀(k:Nat) (x:Value×Value) (l:List It),V[k]?=some x→E[k]?=some l→Prs w x.2 l
 small:V.length≤100000
theorem Aut.later{w w':World}{v:Value}{V:List (Value×Value)}{L E:List (List It)}(h:Aut w v V L E)(hb:Below w.heap.size w w'):Aut w' v V L E:=by obtain⟨⟨A,c,hv,h0,hc⟩,h1,h2,h3,h4⟩:=h;refine⟨⟨A,c,hv,h0,fun k x hx=>?_⟩,h1,fun k x l a b=>(h2 k x l a b).later hb,fun k x l a b=>(h3 k x l a b).later hb,h4⟩;obtain⟨b,off,hA,hlt,e1,e2⟩:=hc k x hx;exact⟨b,off,hA,ltL hlt hb.size,(hb.cell (p:=⟨b,off+k*2,none⟩) hlt).trans e1,(hb.cell (p:=⟨b,off+k*2+1,none⟩) hlt).trans e2⟩
def gotoI(t:List It)(s:Nat):Int:=match t.find? (fun x=>x.1==s) with|some x=>(x.2:Int)|none => -1
theorem gotoI_cons(x:It)(t:List It)(s:Nat):gotoI (x::t) s=if x.1=s then(x.2:Int) else gotoI t s:=by
 unfold gotoI;rw[List.find?_cons];by_cases h:x.1=s
 ·rw[if_pos h,show (x.1==s)=true by simp[h]]
 ·rw[if_neg h,show (x.1==s)=false by simp[h]]
theorem goto_any{w:World}{v:Value}{V:List (Value×Value)}{L E:List (List It)}(h:Aut w v V L E){i s:Nat}(hi:i<V.length) :
  Calls Tryz.prog 28 #[v,.int .i64 i,.int .i64 s] w fun e w'=>e=.returned (.int .i64 (gotoI (E.getD i []) s))∧Below w.heap.size w w':=by
 obtain⟨⟨A,c,rfl,hc0,hc⟩,⟨hl1,hl2⟩,h2,h3,h4⟩:=h;obtain⟨x,hx⟩:∃x,V[i]?=some x:=⟨_,eG hi⟩
 obtain⟨t,htt⟩:∃t,E[i]?=some t:=⟨_,eG (by omega)⟩
 obtain⟨b,off,rfl,hb,c0,c1⟩:=hc i x hx;obtain⟨⟨At,ct,hvt,hct⟩,hst,hrt⟩:=h3 i x t hx htt;have e:E.getD i []=t:=by rw[dG,htt];rfl
 rw[e];rw[hvt]at c1;have HC:=Hd hct;have hi1:(i:Int)<(V.length:Int):=by omega
 obtain⟨r,hr⟩:∃r,gotoI t s=r:=⟨_,rfl⟩
 rw[hr];have HR:=Hd hr;clear hct hrt h2 h3 hx htt hc hr e hl1 hl2;generalize V.length=n at *;go_enter Tryz.func28,Tryz.ntmps28
 go_wp2_with fail
 go_loopw [23] (fun ii wr=>∃k:Nat,k≤t.length∧ii=.int .i64 k∧Hid (Below w.heap.size w wr)∧Hid (gotoI (t.drop k) s=r)) (fun ii _=>t.length-(intOf ii).toNat)
 case atStart=>exact⟨0,zeL _,rfl,Hd (Below.refl _ _),HR⟩
 case round=>
  obtain⟨k,hk,rfl,HB,HG⟩:=hrel;by_cases hlt:k<t.length
  ·obtain⟨⟨ts,tt⟩,hxt⟩:∃x,t[k]?=some x:=⟨_,eG hlt⟩
   obtain⟨b2,off2,rfl,hb2,d0,d1⟩:=HC.out k _ hxt;have d0:=(HB.out.cell (p:=⟨b2,off2+k*2,none⟩) hb2).trans d0;have d1:=(HB.out.cell (p:=⟨b2,off2+k*2+1,none⟩) hb2).trans d1;have hg:=HG.out;rw[drop_more hxt,gotoI_cons]at hg;simp only at hg d0 d1;clear hxt;by_cases hq:ts=s
   ·rw[if_pos hq]at hg
    have hq1:((ts:Int)==(s:Int))=true:=by rw[hq];simp
    have HGG:=Hd hg;clear hg hq;go_wp2_with fail
    go_ret;exact⟨by rw[←HGG.out];rfl,HB.out.trans ((below_alloc _ _).mono HB.out.size)⟩
   ·rw[if_neg hq]at hg
    have hq1:((ts:Int)==(s:Int))=false:=by rw[bN];omega
    have HGG:=Hd hg;clear hg hq;go_wp2_with fail
    go_roundw
    case rel=>exact⟨k+1,by omega,by go_num,Hd (HB.out.trans ((below_alloc _ _).mono HB.out.size)),HGG⟩
    case measure=>simp[intOf];omega
  ·obtain rfl:k=t.length:=by omega
   have hg:=HG.out;rw[List.drop_length]at hg;have HGG:Hid (-1=r):=Hd hg;clear hg;go_wp2_with fail
   go_ret;exact⟨by rw[←HGG.out];rfl,HB.out⟩
theorem cell_far{w:World}{p:Addr}{u:Value}{b o:Nat}(h:b≠p.block):(w.setCell p u).cell? ⟨b,o,none⟩=w.cell? ⟨b,o,none⟩:=World.cell?_of_block (Below.heap_setCell _ _ _ _ h)
set_option maxHeartbeats 3200000 in
theorem next_of{w:World}{bb:Nat}{v:Value}{g:Gz}(h:BG w bb v g){k d:Nat}(hk:k≤g.R.length)(hd:d≤100000):Calls Tryz.prog 145 #[.pointer (some ⟨bb,0,none⟩),.agg #[.int .i64 k,.int .i64 d]] w fun e w'=>e=.returned (.int .i64 (g.next (k,d):Nat))∧Below w.heap.size w w':=by
 have HR:Hid (∀y,Below w.heap.size w y→Calls Tryz.prog 26 #[v,.int .i64 k] y fun e w'=>∃A c,e=.returned (.tuple #[.agg #[.int .i64 ((g.rule k).1:Nat),.slice A (g.right k).length c],.bool true])∧Nums w' (.slice A (g.right k).length c) (g.right k)∧Below y.heap.size y w'):=Hd (fun y hy=>by refine(ruleN_any (h.gn.later hy) hk).mono ?_;rintro e w' ⟨rv,he,hn,hb⟩;obtain⟨⟨A,c,rfl,-⟩,-,-⟩:=id hn;exact⟨A,c,he,hn,hb⟩)
 have HBG:=Hd h;obtain⟨AT,cT,AN,cN,AR,cR,rfl,hc,hcR⟩:=h.gn.open_;obtain⟨z0,z1,z2,z3⟩:w.cell? ⟨bb,0,none⟩=some (.slice AT g.nt cT)∧w.cell? ⟨bb,1,none⟩=some (.slice AN g.nn cN)∧w.cell? ⟨bb,2,none⟩=some (.slice AR g.R.length cR)∧w.cell? ⟨bb,3,none⟩=some (.int .i64 g.s):=⟨h.cell 0 (by omega),h.cell 1 (by omega),h.cell 2 (by omega),h.cell 3 (by omega)⟩
 have hbb:bb<w.heap.size:=World.block_lt_of_cell? w _ z0;have HX:=Hd (Blk.new w 194 #[.int .i64 k,.int .i64 d]);have HB0:=Hd (below_alloc w (.cells #[.int .i64 k,.int .i64 d] 194));have HV:Hid (g.next (k,d)=(g.right k).getD d 0):=Hd rfl;have HPOS:Hid (∀x∈g.right k,1≤x):=Hd (by
  intro x hx;unfold Gz.right Gz.rule at hx;split at hx
  ·simp at hx
   have:=h.gn.fit.start;omega
  ·rw[dG]at hx
   cases hq:g.R[k]? with
   | none=>rw[hq]at hx;cases hx
   | some r=>rw[hq]at hx;exact(h.gn.fit.right r (mG hq) x hx).1)
 clear h hc;generalize hrl:(g.rule k).1=rl at *;generalize hrr:g.right k=rr at *;generalize g.next (k,d)=nx at *;generalize g.R.length=nR at *;generalize g.nt=nt at *;generalize g.nn=nn at *;generalize g.s=gs at *;clear hrl hrr;have hpos:∀x∈rr,1≤x:=HPOS.out;have HPO:=Hd hpos;clear hpos;go_enter Tryz.func145,Tryz.ntmps145
 go_upto_region 1 with fail
 have hW:∃W,W=w.alloc (.cells #[.int .i64 k,.int .i64 d] 194):=⟨_,rfl⟩
 have y0:=(HB0.out.cell (p:=⟨bb,0,none⟩) hbb).trans z0;have y1:=(HB0.out.cell (p:=⟨bb,1,none⟩) hbb).trans z1;have y2:=(HB0.out.cell (p:=⟨bb,2,none⟩) hbb).trans z2;have y3:=(HB0.out.cell (p:=⟨bb,3,none⟩) hbb).trans z3;have x0:=HX.out.cell 0;have x1:=HX.out.cell 1;simp only[List.getElem?_toArray,List.getElem?_cons_zero,List.getElem?_cons_succ]at x0 x1;have hws:w.heap.size<(w.alloc (.cells #[.int .i64 k,.int .i64 d] 194)).heap.size:=by simp
 clear z0 z1 z2 z3 hW;generalize w.alloc (.cells #[.int .i64 k,.int .i64 d] 194)=w1 at *;have HT1:=Hd (HR.out w1.drew HB0.out.drew);have HT2:=Hd (HR.out ((w1.alloc (.cells #[.int .i64 0,.slice none 0 0] 65)).drew) ((HB0.out.alloc (by omega) _).drew));have HZ:Hid (Blk (w1.alloc (.cells #[.int .i64 0,.slice none 0 0] 65)).drew w1.heap.size 65 #[.int .i64 0,.slice none 0 0]):=Hd (Blk.drew (Blk.newAt rfl));have hbb1:bb<w1.heap.size:=by omega
 go_region_law (first
  | (
    go_simp;go_at_call 26;first
      | (
        with_reducible refine HT1.out.mono ?_
        rintro e w2 ⟨A,c,rfl,hn,hb2⟩;have HN:=Hd hn;have HBW:=Hd (HB0.out.drew.trans (hb2.mono (by show w.heap.size≤w1.heap.size;omega)));have HX2:=Hd (Blk.below (g:=w.heap.size) (Blk.drew HX.out) hb2 hws);have hl2:=HX2.out.lt;have k0:=HX2.out.cell 0;have k1:=HX2.out.cell 1;simp at k0 k1;clear hb2 hn)
      | (
        with_reducible refine HT2.out.mono ?_
        rintro e w2 ⟨A,c,rfl,hn,hb2⟩;have HN:=Hd hn;have HBW:=Hd (((HB0.out.alloc (by omega) (.cells #[.int .i64 0,.slice none 0 0] 65)).drew).trans (hb2.mono (by simp;omega)));have HX2:=Hd (Blk.below (g:=w.heap.size) (Blk.drew (Blk.alloc HX.out (.cells #[.int .i64 0,.slice none 0 0] 65))) hb2 (by simp;omega));have HZ2:=Hd (HZ.out.below hb2 HZ.out.lt);have hl2:=HX2.out.lt;have k0:=HX2.out.cell 0;have k1:=HX2.out.cell 1;have j0:=HZ2.out.cell 0;have j1:=HZ2.out.cell 1;have j2:=HZ2.out.frozen 0;have j3:=HZ2.out.frozen 1;simp at k0 k1 j0 j1;clear hb2 hn)))
 all_goals (
  by_cases hdl:d<rr.length
  ·obtain⟨x,hxd⟩:∃x,rr[d]?=some x:=⟨_,eG hdl⟩
   obtain⟨⟨A',c',e',hcc⟩,-,-⟩:=HN.out;cases e'
   obtain⟨b2,off2,rfl,hb2,hcell⟩:=hcc d x hxd;have hx1:=HPO.out x (mG hxd);have hnx:nx=x:=by rw[HV.out,dG,hxd];rfl
   have hcell:w2.cell? ⟨b2,off2+d,none⟩=some (.int .i64 x):=hcell;subst hnx;clear hcc hxd;have hdi:(d:Int)<(rr.length:Int):=by omega
   try (
     have hne:b2≠w1.heap.size:=by
       rintro rfl;have hz:=HZ2.out.cell (off2+d);rw[hcell]at hz
       match hq:off2+d,hz with
       | 0,hz=>simp at hz;omega
       | 1,hz=>simp at hz
       | n+2,hz=>simp at hz
     have hcf:((w2.setCell ⟨w1.heap.size,0,none⟩ (.int .i64 rl)).setCell ⟨w1.heap.size,1,none⟩ (.slice (some ⟨b2,off2,none⟩) rr.length c)).cell? ⟨b2,off2+d,none⟩=some (.int .i64 nx):=(cell_far (p:=⟨w1.heap.size,1,none⟩) hne).trans ((cell_far (p:=⟨w1.heap.size,0,none⟩) hne).trans hcell))
   go_wp2_with fail
   go_ret;first
     | exact⟨rfl,HBW.out.alloc HBW.out.size _⟩
     | exact⟨rfl,(HBW.out.setCell (p:=⟨w1.heap.size,0,none⟩) (by show w.heap.size≤w1.heap.size;omega) _).setCell (p:=⟨w1.heap.size,1,none⟩) (by show w.heap.size≤w1.heap.size;omega) _⟩
  ·have hnx:nx=0:=by rw[HV.out,dG,nG (by omega)];rfl
   subst hnx;go_wp2_with fail
   go_ret;first
     | exact⟨rfl,HBW.out.alloc HBW.out.size _⟩
     | exact⟨rfl,(HBW.out.setCell (p:=⟨w1.heap.size,0,none⟩) (by show w.heap.size≤w1.heap.size;omega) _).setCell (p:=⟨w1.heap.size,1,none⟩) (by show w.heap.size≤w1.heap.size;omega) _⟩)
def OutI(w:World)(l:List It)(o:Value)(wr:World):Prop:=∃A c,o=.slice A l.length c∧wr.ownsRow w.heap.size 194 2 (.slice A l.length c) l.length (l.flatMap itC)∧Below w.heap.size w wr
theorem outI_app{w wr w2:World}{l:List It}{x:It}{A:Option Addr}{c:Nat}(hb:Below w.heap.size w wr)(r1:w2.ownsRow w.heap.size 194 2 (.slice A (l.length+1) c) (l.length+1) (l.flatMap itC++itC x))(r2:Keeps w.heap.size [194] wr w2):OutI w (l++[x]) (.slice A (l.length+1) c) w2:=
 ⟨A,c,by simp,by simpa using r1,hb.trans (r2.below hb.size)⟩
theorem item_src(x:It)(y:World):SrcOK (y.alloc (.cells #[.int .i64 x.1,.int .i64 x.2] 194)) (.slice (some ⟨y.heap.size,0,none⟩) 1 1) 1 2 (itC x):=
 SrcOK.blk (c:=1) (cs:=itC x) (Blk.new y 194 _) rfl (fun u hu=>by unfold itC at hu;simp at hu;rcases hu with rfl|rfl<;>rfl)
theorem ofL_len(g:Gz)(s:Nat):(g.ofL s).length≤g.R.length:=by unfold Gz.ofL;exact leT (List.length_filter_le _ _) (by simp)
theorem rulesN_any{w:World}{bb:Nat}{v:Value}{g:Gz}(h:BG w bb v g){s:Nat}:Calls Tryz.prog 144 #[.pointer (some ⟨bb,0,none⟩),.int .i64 s] w fun e w'=>∃o,e=.returned o∧OutI w (g.rulesI s) o w':=by
 have HO:=Hd (ofN_any h.gn s);have hlen:=ofL_len g s;have hnr:=h.gn.fit.nr;have hRI:g.rulesI s=(g.ofL s).map fun k=>(k,0):=rfl
 have HRI:=Hd hRI;obtain⟨AT,cT,AN,cN,AR,cR,rfl,hc,hcR⟩:=h.gn.open_;obtain⟨z0,z1,z2,z3⟩:w.cell? ⟨bb,0,none⟩=some (.slice AT g.nt cT)∧w.cell? ⟨bb,1,none⟩=some (.slice AN g.nn cN)∧w.cell? ⟨bb,2,none⟩=some (.slice AR g.R.length cR)∧w.cell? ⟨bb,3,none⟩=some (.int .i64 g.s):=⟨h.cell 0 (by omega),h.cell 1 (by omega),h.cell 2 (by omega),h.cell 3 (by omega)⟩
 clear h hc hRI;generalize g.rulesI s=L at *;generalize g.ofL s=ks at *;have hks:ks.length≤300:=by omega
 go_enter Tryz.func144,Tryz.ntmps144
 go_wp2_with (
      go_at_call 83;refine HO.out.mono ?_;rintro e w1 ⟨o,rfl,A,c,rfl,hr,hb⟩
      have hr2:w1.ownsRow w.heap.size 3 1 (.slice A ks.length c) ks.length (ks.map NatV):=by simpa using hr
      have HN:=Hd hr2;have HB:=Hd hb;simp only[lM]at *;clear hr hb hr2)
 go_loopw [5,15] (fun o i wr=>∃k:Nat,k≤ks.length∧i=.int .i64 k∧Hid (OutI w ((ks.take k).map fun k=>(k,0)) o wr)∧Hid (wr.ownsRow w.heap.size 3 1 (.slice A ks.length c) ks.length (ks.map NatV))) (fun _ i _=>ks.length-(intOf i).toNat)
 case atStart=>exact⟨0,zeL _,rfl,Hd ⟨none,0,rfl,⟨rfl,.inl ⟨rfl,rfl⟩⟩,HB.out⟩,HN⟩
 case round=>
  obtain⟨k,hk,rfl,HOU,HN1⟩:=hrel;by_cases hlt:k<ks.length
  ·obtain⟨x,hx⟩:∃x,ks[k]?=some x:=⟨_,eG hlt⟩
   obtain⟨b,rfl,hcell⟩:∃b,A=some ⟨b,0,none⟩∧wr.cell? ⟨b,k,none⟩=some (.int .i64 x):=by
    obtain⟨⟨A',c',e,hc⟩,-,-⟩:=nums_own HN1.out (by omega);obtain⟨b,off,hA,-,hcell⟩:=hc k x hx;cases e
    rcases own_form HN1.out with⟨-,h1⟩|⟨b3,c3,h1,-⟩
    ·omega
    ·cases h1
     cases hA
     exact⟨_,rfl,by simpa [NatV] using hcell⟩
   obtain⟨A2,c2,ho,hrow,hbw⟩:=HOU.out;have htk:ks.take (k+1)=ks.take k++[x]:=by rw[List.take_add_one,hx];rfl
   have hl0:((ks.take k).map fun k=>((k,0):It)).length=k:=by simp;omega
   have HTK:=Hd htk;have HROW:=Hd hrow;have HBW:=Hd hbw;have HS:=Hd (item_src (x,0));subst ho;clear hx htk HOU hrow hbw;generalize hls:((ks.take k).map fun k=>((k,0):It))=ls at *;have HLS:=Hd hls;clear hls;go_wp2_with (
       at_builtin;refine wpList_app ElItem (.tmp 19) (.tmp 22) rfl rfl (base:=w.heap.size) (n:=ls.length) (m:=1) (N:=ls.length+1) (xs:=ls.flatMap itC) (news:=itC (x,0)) rfl rfl (HROW.out.alloc _) (HS.out _) rfl (by unfold maxLen;omega) (by omega) (by have:=HBW.out.size;simp;omega) ?_
       intro A3 c3 w3 r1 r2 r3;have HF:=Hd (outI_app (HBW.out.trans ((below_alloc wr _).mono HBW.out.size)) r1 r2);have HFB:=Hd (r2.own (own_below HN1.out (below_alloc wr _)) (.inr (by decide)));clear r1 r2 r3)
   go_roundw
   case rel=>exact⟨k+1,by omega,by go_num,Hd (by rw[HTK.out,mpA,HLS.out];have:=HF.out;rw[hl0]at this;exact this),HFB⟩
   case measure=>simp[intOf];omega
  ·obtain rfl:k=ks.length:=by omega
   rw[List.take_length]at HOU;go_wp2_with fail
   go_ret;exact⟨_,rfl,by rw[HRI.out];exact HOU.out⟩
def dedA:List It→List It
 | []=>[]
 | [x]=>[x]
 | x::y::l=>if x=y then dedA (y::l) else x::dedA (y::l)
theorem dedA_snoc:∀(l:List It) (y x:It),dedA (l++[y]++[x])=if y=x then dedA (l++[y]) else dedA (l++[y])++[x]
 | [],y,x=>by
  show dedA [y,x]=_;rw[dedA];split
  ·rename_i h;rw[h];rfl
  ·rfl
 | [a],y,x=>by
  show dedA [a,y,x]=_;have h:=dedA_snoc [] y x;simp only[List.nil_append,List.singleton_append]at h;show (if a=y then dedA [y,x] else a::dedA [y,x])=if y=x then(if a=y then dedA [y] else a::dedA [y]) else(if a=y then dedA [y] else a::dedA [y])++[x]
  rw[h];split<;>split<;>rfl
 | a::b::l,y,x=>by
  have h:=dedA_snoc (b::l) y x;have e1:∀m:List It,dedA (a::b::m)=if a=b then dedA (b::m) else a::dedA (b::m):=fun m=>rfl
  simp only[List.cons_append]at h ⊢;rw[e1,e1,h];split<;>split<;>rfl
theorem dedA_len:∀l:List It,(dedA l).length≤l.length
 | []=>leR _
 | [x]=>leR _
 | x::y::l=>by
  have h:=dedA_len (y::l);unfold dedA;split
  ·simp at h ⊢;omega
  ·simp at h ⊢;omega
theorem dedA_take{l:List It}{j:Nat}{x y:It}(hx:l[j+1]?=some x)(hy:l[j]?=some y):dedA (l.take (j+2))=if y=x then dedA (l.take (j+1)) else dedA (l.take (j+1))++[x]:=by
 have e1:l.take (j+1)=l.take j++[y]:=by rw[List.take_add_one,hy];rfl
 have e2:l.take (j+2)=l.take j++[y]++[x]:=by rw[←e1,show j+2=(j+1)+1 by omega,List.take_add_one,hx];rfl
 rw[e2,e1];exact dedA_snoc _ _ _
theorem item_equal(x y:It)(w:World):(Op.equalIn 10000 194 (itV x) (itV y)).run Tryz.prog w=.ok (decide (x=y)) w:=by
 have u3:=Tryz.underlying3;have a3:=Tryz.isAgg3;have z3:=Tryz.sizeOf3;have hS:Tryz.prog.underlying 194=some (.struct (Tryz.prog.fieldsOf 194)):=by kernel_rfl
 have hp:Tryz.prog.stoodInHeld 194=false:=by kernel_rfl
 obtain⟨a,b⟩:=x;obtain⟨c,d⟩:=y;unfold itV;simp only;rw[show (10000:Nat)=9999+1 from rfl,run_equalIn_agg w 9999 194 _ _ hS hp];simp only[Program.fieldsOf,Tryz.underlying194];go_simp;by_cases h1:a=c<;>by_cases h2:b=d<;>simp[h1,h2]<;>omega
theorem item_eq(x y:It)(w:World):(binOp .eql 194 (itV x) (itV y)).run Tryz.prog w=.ok (.bool (decide (x=y))) w:=by show (binOp .eql 194 (.agg _) (.agg _)).run Tryz.prog w=_;rw[run_eql_struct];have h:=item_equal x y w;unfold itV at h;rw[h];rfl
theorem item_ne(x y:It)(w:World):(binOp .neq 194 (itV x) (itV y)).run Tryz.prog w=.ok (.bool (!decide (x=y))) w:=by show (binOp .neq 194 (.agg _) (.agg _)).run Tryz.prog w=_;rw[run_neq_struct];have h:=item_equal x y w;unfold itV at h;rw[h];rfl
theorem item_guard(op:BinOp)(a b:Operand)(x y:It)(w:World):(eqGuard op 194 a b (itV x) (itV y)).run Tryz.prog w=.ok () w:=run_eqGuard_agg w op 194 a b _ _ (by kernel_rfl)
abbrev IRow(w:World)(B g n c:Nat)(r:List It):Prop:=w.ownsRow B 194 2 (.slice (some ⟨g,0,none⟩) n c) n (r.flatMap itC)
theorem flat_len(r:List It):(r.flatMap itC).length=r.length*2:=fm_len itC 2 (fun _=>rfl) r
theorem irow_len{w:World}{B g n c:Nat}{r:List It}(h:IRow w B g n c r):r.length=n:=by have:=h.1;rw[flat_len]at this;omega
theorem irow_at{w:World}{B g n c:Nat}{r:List It}(h:IRow w B g n c r){k:Nat}{x:It}(hx:r[k]?=some x):w.cell? ⟨g,k*2,none⟩=some (.int .i64 x.1)∧w.cell? ⟨g,k*2+1,none⟩=some (.int .i64 x.2):=by obtain⟨hk,hx2⟩:=sG.1 hx;have hl:=irow_len h;have g0:=fm_get itC 2 (fun _=>rfl) r k 0 hk (by omega);have g1:=fm_get itC 2 (fun _=>rfl) r k 1 hk (by omega);rw[hx2,Nat.add_zero]at g0;rw[hx2]at g1;exact⟨by rw[own_cell h (k*2) (by omega),g0];rfl,by rw[own_cell h (k*2+1) (by omega),g1];rfl⟩
theorem flat_set(r:List It)(k:Nat)(x:It)(hk:k<r.length):((r.flatMap itC).set (k*2) (.int .i64 x.1)).set (k*2+1) (.int .i64 x.2)=(r.set k x).flatMap itC:=by
 induction r generalizing k with
 | nil=>simp at hk
 | cons a r ih=>
  cases k with
  | zero=>rfl
  | succ k=>
   have e1:(k+1)*2=k*2+2:=by omega
   have h:=ih k (by simpa using hk);rw[List.flatMap_cons,List.set_cons_succ,List.flatMap_cons,←h,e1];rfl
theorem irow_set{w:World}{B g n c:Nat}{r:List It}(h:IRow w B g n c r){k:Nat}(hk:k<n)(x:It):IRow ((w.setCell ⟨g,k*2,none⟩ (.int .i64 x.1)).setCell ⟨g,k*2+1,none⟩ (.int .i64 x.2)) B g n c (r.set k x):=by have h1:=own_set h (k*2) (by omega) (.int .i64 x.1);have h2:=own_set h1 (k*2+1) (by omega) (.int .i64 x.2);rw[flat_set r k x (by rw[irow_len h];exact hk)]at h2;exact h2
end Go.Proofs.YthaacmablcpdfaaGreatDoor
