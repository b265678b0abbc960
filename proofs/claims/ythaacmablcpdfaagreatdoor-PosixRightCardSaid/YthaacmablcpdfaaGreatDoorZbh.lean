/- What comes with a nonterminal. -/
import Derived.Test.YthaacmablcpdfaaGreatDoorZbd
import Derived.Test.YthaacmablcpdfaaGreatDoorZau
import Derived.Test.YthaacmablcpdfaaGreatDoorNm
namespace Go.Proofs.YthaacmablcpdfaaGreatDoor
open Go.RowKit
open Go.Maps (IsMap Keyed)
set_option linter.unusedVariables false
set_option maxRecDepth 100000
theorem ElCome:El Tryz.prog 236 242 3 24:=El.of (z:=.agg #[.int .i64 0,.pointer none,.bool false]) Tryz.underlying236 (by kernel_rfl) rfl (by decide)
abbrev IMap(w:World)(mb n:Nat)(D:DataW Unit):Prop:=w.ownsMap Tryz.prog 3 (plainElem Tryz.prog 3) mb n D
def PoD(D:DataW Unit)(m:Nat→Option Nat):Prop:=∀s:Nat,(∀j,m s=some j→Maps.has D (klN s)=true∧∀z,D.atKey (klN s) z=.lit (.int .i64 (j:Int)))∧(m s=none→Maps.has D (klN s)=false∧∀z,D.atKey (klN s) z=z)
theorem PoD.start:PoD (.map []) (fun _=>none):=fun s=>⟨(fun j h=>by cases h),fun _=>⟨rfl,fun _=>rfl⟩⟩
theorem PoD.next{D:DataW Unit}{m:Nat→Option Nat}(h:PoD D m)(hm:IsMap D)(s j:Nat):PoD (D.put (klN s) (.lit (.int .i64 (j:Int)))) (fun a=>if a=s then some j else m a):=by
 intro a;by_cases hq:a=s
 ·subst hq
  refine⟨fun j' hj=>?_,fun hj=>?_⟩
  ·simp only[if_true]at hj
   cases hj
   exact⟨Maps.has_put_same hm (klN_key _) _,fun z=>Maps.atKey_put_same hm (klN_key _) _ _⟩
  ·simp only[if_true]at hj
   cases hj
 ·have hne:klN a≠klN s:=fun e=>hq (klN_inj e)
  simp only[if_neg hq,Maps.has_put_other hne,Maps.atKey_put_other hne];exact h a
theorem PoD.congr{D:DataW Unit}{m m':Nat→Option Nat}(h:PoD D m)(he:∀s,m s=m' s):PoD D m':=by have:m=m':=funext he;rw[←this];exact h
theorem po_look{w:World}{mb n:Nat}{D:DataW Unit}{m:Nat→Option Nat}(h:IMap w mb n D)(hm:PoD D m){s:Nat}(hs:s≤100000) :
  (Instr.lookup 245 (.map (some mb)) (.int .i64 (s:Int)) true).run Tryz.prog w=.ok (.tuple #[.int .i64 (((m s).getD 0:Nat):Int),.bool (m s).isSome]) w:=by
 have hk:keyOf Tryz.prog 3 (.int .i64 (s:Int))=some (klN s):=Maps.keyOf_int_mk Tryz.underlying3 (WalkArith.wf_i64 (by omega));have hz:=plainElem_int (H:=Unit) (a:=0) Tryz.underlying3 (WalkArith.wf_i64 (by omega));obtain⟨v,ps,h1,h2⟩:=h.look_ok lawIntQ Tryz.underlying245 (zeroIntR w) hz hk;have h1':(Instr.lookup 245 (.map (some mb)) (.int .i64 (s:Int)) true).run Tryz.prog w=.ok (.tuple #[v,.bool (Maps.has D (klN s))]) w:=h1;have h2':plainElem Tryz.prog 3 v=some (D.atKey (klN s) (.lit (.int .i64 0)),ps):=h2;obtain⟨c,rfl,hc,-⟩:=plainElem_int_inv Tryz.underlying3 h2';have hc1:D.atKey (klN s) (.lit (.int .i64 0))=.lit (.int .i64 c):=congrArg Prod.fst hc
 rw[h1'];obtain⟨a1,a2⟩:=hm s;cases hq:m s with
 | some j=>obtain⟨b1,b2⟩:=a1 j hq;rw[b2]at hc1;simp only[DataW.lit.injEq,Lit.int.injEq,true_and]at hc1;rw[b1,←hc1];rfl
 | none=>obtain⟨b1,b2⟩:=a2 hq;rw[b2]at hc1;simp only[DataW.lit.injEq,Lit.int.injEq,true_and]at hc1;rw[b1,←hc1];rfl
theorem po_put{w:World}{mb n:Nat}{D:DataW Unit}(h:IMap w mb n D)(hn:n≤10000000){s c:Nat}(hs:s≤100000)(hc:c≤100000) :
  ∃w',(Instr.mapUpdate 245 (.map (some mb)) (.int .i64 (s:Int)) (.int .i64 (c:Int))).run Tryz.prog w=.ok () w'∧IMap w' mb (n+1) (D.put (klN s) (.lit (.int .i64 (c:Int))))∧w.grownBy w' (some mb):=
 h.update lawIntQ Tryz.underlying245 (by unfold maxLen;omega) (Maps.keyOf_int_mk Tryz.underlying3 (WalkArith.wf_i64 (by omega))) (plainElem_int Tryz.underlying3 (WalkArith.wf_i64 (by omega)))
def comC(z:SetH×Come):List Value:=[.int .i64 (z.2.s:Nat),z.1.v,.bool z.2.self]
def posC(out:List Come)(s:Nat):Option Nat:=out.findIdx? (fun c=>c.s==s)
structure Cst(w wr:World)(mm nD ob oc m:Nat)(tv:Value)(Z:List (SetH×Come))(todo:List Nat)(D:DataW Unit):Prop where
 below:Below w.heap.size w wr
 row:wr.ownsRow w.heap.size 242 3 (.slice (some ⟨ob,0,none⟩) Z.length oc) Z.length (Z.flatMap comC)
 fam:Fam wr m (Z.map (·.1)) (Z.map (·.2.set))
 new:∀z∈Z,w.heap.size≤z.1.h∧w.heap.size≤z.1.wb
 que:OwnQ wr w.heap.size 3 1 tv todo.length (todo.map NatV)
 map:IMap wr mm nD D
 at_:PoD D (posC (Z.map (·.2)))
 lo:w.heap.size≤mm
 tb:∀i∈todo,i<Z.length
section
variable {w wr w2:World} {mm nD ob oc m:Nat} {tv:Value} {Z:List (SetH×Come)} {todo:List Nat} {D:DataW Unit}
theorem Cst.later(h:Cst w wr mm nD ob oc m tv Z todo D)(hb:Below wr.heap.size wr w2):Cst w w2 mm nD ob oc m tv Z todo D:=
 ⟨h.below.trans (hb.mono h.below.size),own_below h.row hb,h.fam.later hb,h.new,h.que.below hb,(Chg.of_below (X:=fun _=>False) hb).map h.map id,h.at_,h.lo,h.tb⟩
theorem Cst.cells(h:Cst w wr mm nD ob oc m tv Z todo D){j:Nat}{z:SetH×Come}(hz:Z[j]?=some z):wr.cell? ⟨ob,j*3,none⟩=some (.int .i64 (z.2.s:Nat))∧wr.cell? ⟨ob,j*3+1,none⟩=some z.1.v∧wr.cell? ⟨ob,j*3+2,none⟩=some (.bool z.2.self)∧wr.frozen? ⟨ob,j*3+2,none⟩=false:=by obtain⟨hk,hx2⟩:=sG.1 hz;have g0:=fm_get comC 3 (fun _=>rfl) Z j 0 hk (by omega);have g1:=fm_get comC 3 (fun _=>rfl) Z j 1 hk (by omega);have g2:=fm_get comC 3 (fun _=>rfl) Z j 2 hk (by omega);rw[hx2,Nat.add_zero]at g0;rw[hx2]at g1 g2;exact⟨by rw[own_cell h.row (j*3) (by omega),g0];rfl,by rw[own_cell h.row (j*3+1) (by omega),g1];rfl,by rw[own_cell h.row (j*3+2) (by omega),g2];rfl,own_frozen h.row _⟩
theorem Cst.blk(h:Cst w wr mm nD ob oc m tv Z todo D):∃cur,Blk wr ob 242 cur∧w.heap.size≤ob:=by
 rcases h.row.2 with⟨hh,_⟩|⟨g',cap,cur,hh,hB,hgg,_⟩
 ·cases hh
 ·cases hh;exact⟨cur,hgg,hB⟩
theorem Cst.set_at(h:Cst w wr mm nD ob oc m tv Z todo D){j:Nat}{z:SetH×Come}(hz:Z[j]?=some z):SetAt wr z.1 z.2.set∧z.1.n=m:=by have h1:=h.fam.at_ j z.1 (by rw[pG,hz];rfl);rw[dG,pG,hz]at h1;exact⟨h1,h.fam.room z.1 (List.mem_map.2 ⟨z,mG hz,rfl⟩)⟩
theorem Cst.apart(h:Cst w wr mm nD ob oc m tv Z todo D){i j:Nat}{y z:SetH×Come}(hy:Z[i]?=some y)(hz:Z[j]?=some z)(hij:i≠j):y.1.wb≠z.1.wb:=by
 intro e;refine hij (nodup_get h.fam.apart (a:=y.1.wb) ?_ ?_)
 ·rw[pG,pG,hy];rfl
 ·rw[pG,pG,hz,e];rfl
theorem posC_set(out:List Come)(j:Nat)(c:Come)(s:Nat)(h:∀d,out[j]?=some d→d.s=c.s):posC (out.set j c) s=posC out s:=by
 unfold posC;induction out generalizing j with
 | nil=>rfl
 | cons a out ih=>
  cases j with
  | zero=>have:=h a rfl;rw[List.set_cons_zero,List.findIdx?_cons,List.findIdx?_cons,this]
  | succ j=>rw[List.set_cons_succ,List.findIdx?_cons,List.findIdx?_cons,ih j (fun d hd=>h d (by simpa using hd))]
theorem posC_add(out:List Come)(c:Come)(h:posC out c.s=none)(s:Nat):(if s=c.s then some out.length else posC out s)=posC (out++[c]) s:=by
 unfold posC at *;rw[List.findIdx?_append];by_cases hs:s=c.s
 ·subst hs
  rw[if_pos rfl,h];simp
 ·rw[if_neg hs]
  have:(c.s==s)=false:=beq_false_of_ne (fun e=>hs e.symm);cases out.findIdx? (fun x=>x.s==s)<;>simp[this]
theorem comC_set(r:List (SetH×Come))(k:Nat)(z:SetH×Come)(S:Nat)(hk:r[k]?=some z):(r.flatMap comC).set (k*3+2) (.bool true)=(r.set k (z.1,⟨z.2.s,S,true⟩)).flatMap comC:=by
 induction r generalizing k with
 | nil=>simp at hk
 | cons x r ih=>
  cases k with
  | zero=>simp at hk;subst hk;rfl
  | succ k=>
   have e1:(k+1)*3+2=k*3+2+3:=by omega
   have h:=ih k (by simpa using hk);rw[List.flatMap_cons,List.set_cons_succ,List.flatMap_cons,←h,e1];rfl
theorem comC_same(r:List (SetH×Come))(k:Nat)(z:SetH×Come)(S:Nat)(hk:r[k]?=some z):(r.set k (z.1,⟨z.2.s,S,z.2.self⟩)).flatMap comC=r.flatMap comC:=by
 induction r generalizing k with
 | nil=>simp at hk
 | cons x r ih=>
  cases k with
  | zero=>simp at hk;subst hk;rfl
  | succ k=>have h:=ih k (by simpa using hk);rw[List.set_cons_succ,List.flatMap_cons,List.flatMap_cons,h]
theorem Cst.handed(h:Cst w wr mm nD ob oc m tv Z todo D){j:Nat}{z:SetH×Come}(hz:Z[j]?=some z){r:Come×Bool}(hr:r.1.s=z.2.s){e:Ending}(he:HandEnd wr ob (j*3) z.1 z.2.self r e w2):Cst w w2 mm nD ob oc m tv (Z.set j (z.1,r.1)) todo D∧Chg (fun k=>k=ob∨k=z.1.wb) wr w2:=by
 obtain⟨-,w3,hc,hs,hw⟩:=he;obtain⟨cur,hcur,hob⟩:=h.blk;have hsz:=h.set_at hz;have hzn:=h.new z (mG hz);have hj:=(sG.1 hz).1;have hne:ob≠z.1.wb:=Blk.ne_ hcur hsz.1.words (by decide);have hcur3:=hc.blk hcur hne;have hrow3:=hc.own h.row (fun k hk e=>by cases hk;exact hne e);have hp:(Z.map (·.1))[j]?=some z.1:=by rw[pG,hz];rfl
 have hf3:Fam w3 m (Z.map (·.1)) ((Z.map (·.2.set)).set j r.1.set):=h.fam.turn hp hs hc;have hq3:OwnQ w3 w.heap.size 3 1 tv todo.length (todo.map NatV):=h.que.chg (X:=fun _=>True) (fun g cur hb _=>hc.blk hb (fun e=>Blk.ne_ hb hsz.1.words (by decide) e));have hm3:=hc.map h.map (fun e=>map_ne h.map hsz.1.words e.symm);have hb3:Below w.heap.size w w3:=h.below.trans (hc.below h.below.size (fun k hk e=>by omega));have e1:(Z.set j (z.1,r.1)).map (·.1)=Z.map (·.1):=by rw[List.map_set];exact set_same hp
 have e2:(Z.set j (z.1,r.1)).map (·.2.set)=(Z.map (·.2.set)).set j r.1.set:=by rw[List.map_set]
 have e3:(Z.set j (z.1,r.1)).map (·.2)=(Z.map (·.2)).set j r.1:=by rw[List.map_set]
 have hat:PoD D (posC ((Z.set j (z.1,r.1)).map (·.2))):=h.at_.congr fun s=>by
  rw[e3,posC_set];intro d hd;rw[pG,hz]at hd;cases hd
  exact hr.symm
 have hnew:∀y∈Z.set j (z.1,r.1),w.heap.size≤y.1.h∧w.heap.size≤y.1.wb:=fun y hy=>by
  rcases List.mem_or_eq_of_mem_set hy with h1|rfl
  ·exact h.new y h1
  ·exact hzn
 rcases hw with⟨rfl,hself⟩|⟨rfl,hself⟩
 ·refine⟨⟨hb3,?_,by rw[e1,e2];exact hf3,hnew,hq3,hm3,hat,h.lo,fun i hi=>by rw[List.length_set];exact h.tb i hi⟩,hc.mono fun k hk=>.inr hk⟩
  have e4:=comC_same Z j z r.1.set hz;have e5:r.1=⟨z.2.s,r.1.set,z.2.self⟩:=by obtain⟨⟨a,b,c⟩,d⟩:=r;simp only at hr hself ⊢;rw[hr,hself]
  rw[e5,List.length_set,e4];exact hrow3
 ·have hc4:Chg (·=ob) w3 (w3.setCell ⟨ob,j*3+2,none⟩ (.bool true)):=Chg.set (X:=(·=ob)) (Chg.refl _ w3) (p:=⟨ob,j*3+2,none⟩) (.inr rfl) _
  refine⟨⟨hb3.setCell (p:=⟨ob,j*3+2,none⟩) hob _,?_,?_,hnew,?_,hc4.map hm3 (fun e=>map_ne hm3 hcur3 e.symm),hat,h.lo,fun i hi=>by rw[List.length_set];exact h.tb i hi⟩,(hc.mono fun k hk=>.inr hk).next (hc4.mono fun k hk=>.inl hk)⟩
  ·have e5:r.1=⟨z.2.s,r.1.set,true⟩:=by
    obtain⟨⟨a,b,c⟩,d⟩:=r;simp only at hr hself ⊢;rw[hr,hself]
   rw[e5,List.length_set,←comC_set Z j z r.1.set hz];exact own_set hrow3 (j*3+2) (by omega) _
  ·rw[e1,e2]
   refine hf3.chg hc4 (fun p hp=>?_);obtain⟨S,hS⟩:=hf3.mem hp;exact⟨Blk.ne_ hS.head hcur3 (by decide),Blk.ne_ hS.words hcur3 (by decide)⟩
  ·exact hq3.chg (X:=fun _=>True) (fun g cur hb _=>hc4.blk hb (fun e=>Blk.ne_ hb hcur3 (by decide) e))
theorem Cst.doing(h:Cst w wr mm nD ob oc m tv Z todo D){tv2:Value}{i:Nat}(hi:i<Z.length)(hq:OwnQ w2 w.heap.size 3 1 tv2 (todo.length+1) (todo.map NatV++[.int .i64 i]))(hk:Keeps w.heap.size [3] wr w2):Cst w w2 mm nD ob oc m tv2 Z (todo++[i]) D:=
 ⟨h.below.trans (hk.below h.below.size),hk.own h.row (.inr (by decide)),h.fam.keeps hk (by decide) (by decide),h.new,by rw[mpA,lnA];exact hq,hk.map h.map,h.at_,h.lo,fun j hj=>by
  rcases mA.1 hj with h1|h1
  ·exact h.tb j h1
  ·rw[mS.1 h1];exact hi⟩
theorem Cst.tailed{i:Nat}(h:Cst w wr mm nD ob oc m tv Z (i::todo) D){tv2:Value}(hq:OwnQ wr w.heap.size 3 1 tv2 todo.length (todo.map NatV)):Cst w wr mm nD ob oc m tv2 Z todo D:=
 ⟨h.below,h.row,h.fam,h.new,hq,h.map,h.at_,h.lo,fun j hj=>h.tb j (List.mem_cons_of_mem _ hj)⟩
theorem Cst.more(h:Cst w wr mm nD ob oc m tv Z todo D){y:Nat}(hy:posC (Z.map (·.2)) y=none){w3 w4:World}(hm:IMap w2 mm (nD+1) (D.put (klN y) (.lit (.int .i64 (Z.length:Nat)))))(hg:wr.grownBy w2 (some mm))(hb:Below w2.heap.size w2 w3){t:SetH}(hset:SetAt w3 t 0)(hn:t.n=m)(hlt:w2.heap.size≤t.h∧w2.heap.size≤t.wb)
  {A:Option Addr} {c:Nat} (r1:w4.ownsRow w.heap.size 242 3 (.slice A (Z.length+1) c) (Z.length+1) (Z.flatMap comC++comC (t,⟨y,0,false⟩))) (r2:Keeps w.heap.size [242] w3 w4):∃ob',A=some ⟨ob',0,none⟩∧Cst w w4 mm (nD+1) ob' c m tv (Z++[(t,⟨y,0,false⟩)]) todo (D.put (klN y) (.lit (.int .i64 (Z.length:Nat)))):=by
 obtain⟨ob',c',hA⟩:=own_someQ r1 (by omega);cases hA
 have hc:Chg (·=mm) wr w2:=Chg.of_map hg;have hf2:Fam w2 m (Z.map (·.1)) (Z.map (·.2.set)):=h.fam.chg hc (fun p hp=>by obtain⟨S,hS⟩:=h.fam.mem hp;exact⟨map_ne h.map hS.head,map_ne h.map hS.words⟩)
 have hb2:Below w.heap.size w w2:=h.below.trans (hc.below h.below.size (fun k hk e=>by have:=h.lo;omega));have hs2:=hb2.size;have hb3:Below w.heap.size w w3:=hb2.trans (hb.mono hs2);refine⟨ob',rfl,⟨hb3.trans (r2.below hb3.size),by rw[List.flatMap_append,lnA];simpa using r1,?_,?_,?_,r2.map ((Chg.of_below (X:=fun _=>False) hb).map hm id),?_,h.lo,?_⟩⟩
 ·rw[mpA,mpA]
  exact(hf2.push hb hset hn hlt.2).keeps r2 (by decide) (by decide)
 ·intro z hz
  rcases mA.1 hz with h1|h1
  ·exact h.new z h1
  ·rw[mS.1 h1];simp only;omega
 ·exact((h.que.chg (X:=fun _=>True) (fun g cur hb _=>hc.blk hb (map_ne h.map hb))).below hb).keeps r2 (by decide)
 ·refine(h.at_.next h.map.isMap y Z.length).congr fun s=>?_
  have:=posC_add (Z.map (·.2)) ⟨y,0,false⟩ hy s;simp only[lM]at this;rw[this,mpA];rfl
 ·intro i hi
  have:=h.tb i hi;rw[lnA];omega
end
end Go.Proofs.YthaacmablcpdfaaGreatDoor
