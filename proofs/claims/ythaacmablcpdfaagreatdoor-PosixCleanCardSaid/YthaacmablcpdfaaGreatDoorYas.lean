/- What comes with a nonterminal. What comes with a nonterminal. Rows of numbers. Where the maker of lookaheads stands whi. Where the maker of lookaheads stands beh. The place of an item in a state. -/
import Derived.Test.YthaacmablcpdfaaGreatDoorYar
import Derived.Test.YthaacmablcpdfaaGreatDoorYao
import Derived.Deep.DeepCutAuto
import Derived.Test.YthaacmablcpdfaaGreatDoorYag
import Derived.Test.YthaacmablcpdfaaGreatDoorYn
set_option linter.unusedVariables false
set_option maxRecDepth 100000
set_option maxHeartbeats 16000000
namespace Go.Proofs.YthaacmablcpdfaaGreatDoor
open Go.RowKit
section
open Go.Maps (IsMap Keyed)
theorem UD:El Tryz.prog 236 242 3 24:=El.of (z:=.agg #[.int .i64 0,.pointer none,.bool false]) Tryz.underlying236 (by kernel_rfl) rfl (by decide)
abbrev Gj(w:World)(mb n:Nat)(D:DataW Unit):Prop:=w.ownsMap Tryz.prog 3 (plainElem Tryz.prog 3) mb n D
def DZ(D:DataW Unit)(m:Nat->Option Nat):Prop:=∀s:Nat,(∀j,m s=some j->Maps.has D (Ch s)=true/\∀z,D.atKey (Ch s) z=.lit (.int .i64 (j:Int)))/\(m s=none->Maps.has D (Ch s)=false/\∀z,D.atKey (Ch s) z=z)
theorem DZ.start:DZ (.map []) (fun _=>none):=fun s=>⟨(fun j h=>by cases h),fun _=>⟨rfl,fun _=>rfl⟩⟩
theorem DZ.next{D:DataW Unit}{m:Nat->Option Nat}(h:DZ D m)(o:IsMap D)(s j:Nat):DZ (D.put (Ch s) (.lit (.int .i64 (j:Int)))) (fun a=>if a=s then some j else m a):=by
 intro a;by_cases l:a=s
 ·subst l
  refine⟨fun t i=>?_,fun i=>?_⟩
  ·simp only[if_true]at i
   cases i
   exact⟨Maps.has_put_same o (Nt _) _,fun z=>Maps.atKey_put_same o (Nt _) _ _⟩
  ·simp only[if_true]at i
   cases i
 ·have p:Ch a≠Ch s:=fun e=>l (Pg e)
  simp only[if_neg l,Maps.has_put_other p,Maps.atKey_put_other p];exact h a
theorem DZ.congr{D:DataW Unit}{m i:Nat->Option Nat}(h:DZ D m)(j:∀s,m s=i s):DZ D i:=by have:m=i:=funext j;rw[<-this];exact h
theorem Mj{w:World}{mb n:Nat}{D:DataW Unit}{m:Nat->Option Nat}(h:Gj w mb n D)(U:DZ D m){s:Nat}(hs:s<=100000) :
  (Instr.lookup 245 (.map (some mb)) (.int .i64 (s:Int)) true).run Tryz.prog w=.ok (.tuple #[.int .i64 (((m s).getD 0:Nat):Int),.bool (m s).isSome]) w:=by
 have T:keyOf Tryz.prog 3 (.int .i64 (s:Int))=some (Ch s):=Maps.keyOf_int_mk Tryz.underlying3 (WalkArith.wf_i64 (by omega));have hz:=plainElem_int (H:=Unit) (a:=0) Tryz.underlying3 (WalkArith.wf_i64 (by omega));obtain⟨v,ps,C,J⟩:=h.look_ok LZ Tryz.underlying245 (Lq w) hz T;have I:(Instr.lookup 245 (.map (some mb)) (.int .i64 (s:Int)) true).run Tryz.prog w=.ok (.tuple #[v,.bool (Maps.has D (Ch s))]) w:=C;have P:plainElem Tryz.prog 3 v=some (D.atKey (Ch s) (.lit (.int .i64 0)),ps):=J;obtain⟨c,rfl,R,-⟩:=plainElem_int_inv Tryz.underlying3 P;have i:D.atKey (Ch s) (.lit (.int .i64 0))=.lit (.int .i64 c):=congrArg Prod.fst R
 rw[I];obtain⟨p,t⟩:=U s;cases o:m s with
 | some a0=>obtain⟨j,l⟩:=p a0 o;rw[l]at i;simp only[DataW.lit.injEq,Lit.int.injEq,true_and]at i;rw[j,<-i];rfl
 | none=>obtain⟨j,l⟩:=t o;rw[l]at i;simp only[DataW.lit.injEq,Lit.int.injEq,true_and]at i;rw[j,<-i];rfl
theorem L8{w:World}{mb n:Nat}{D:DataW Unit}(h:Gj w mb n D)(j:n<=10000000){s c:Nat}(l:s<=100000)(i:c<=100000) :
  ∃w',(Instr.mapUpdate 245 (.map (some mb)) (.int .i64 (s:Int)) (.int .i64 (c:Int))).run Tryz.prog w=.ok () w'/\Gj w' mb (n+1) (D.put (Ch s) (.lit (.int .i64 (c:Int))))/\w.grownBy w' (some mb):=
 h.update LZ Tryz.underlying245 (by unfold maxLen;omega) (Maps.keyOf_int_mk Tryz.underlying3 (WalkArith.wf_i64 (by omega))) (plainElem_int Tryz.underlying3 (WalkArith.wf_i64 (by omega)))
def Fq(z:AA×AQ):List Value:=[.int .i64 (z.2.s:Nat),z.1.v,.bool z.2.self]
def EE(out:List AQ)(s:Nat):Option Nat:=out.findIdx? (fun c=>c.s==s)
structure CB(w wr:World)(mm nD ob oc m:Nat)(tv:Value)(Z:List (AA×AQ))(todo:List Nat)(D:DataW Unit):Prop where
 below:Below w.heap.size w wr
 row:wr.ownsRow w.heap.size 242 3 (.slice (some ⟨ob,0,none⟩) Z.length oc) Z.length (Z.flatMap Fq)
 AJ:Bu wr m (Z.map (·.1)) (Z.map (·.2.set))
 new:∀z∈Z,w.heap.size<=z.1.h/\w.heap.size<=z.1.wb
 Ja:B8 wr w.heap.size 3 1 tv todo.length (todo.map AU)
 map:Gj wr mm nD D
 at_:DZ D (EE (Z.map (·.2)))
 lo:w.heap.size<=mm
 tb:∀i∈todo,i<Z.length
section
variable {w wr w2:World} {mm nD ob oc m:Nat} {tv:Value} {Z:List (AA×AQ)} {todo:List Nat} {D:DataW Unit}
theorem CB.later(h:CB w wr mm nD ob oc m tv Z todo D)(i:Below wr.heap.size wr w2):CB w w2 mm nD ob oc m tv Z todo D:=
 ⟨h.below.trans (i.mono h.below.size),AS h.row i,h.AJ.later i,h.new,h.Ja.below i,(Aj.AH (X:=fun _=>False) i).map h.map id,h.at_,h.lo,h.tb⟩
theorem CB.cells(h:CB w wr mm nD ob oc m tv Z todo D){j:Nat}{z:AA×AQ}(C:Z[j]?=some z):wr.cell? ⟨ob,j*3,none⟩=some (.int .i64 (z.2.s:Nat))/\wr.cell? ⟨ob,j*3+1,none⟩=some z.1.v/\wr.cell? ⟨ob,j*3+2,none⟩=some (.bool z.2.self)/\wr.frozen? ⟨ob,j*3+2,none⟩=false:=by obtain⟨i,t⟩:=sG.1 C;have l:=CZ Fq 3 (fun _=>rfl) Z j 0 i (by omega);have o:=CZ Fq 3 (fun _=>rfl) Z j 1 i (by omega);have p:=CZ Fq 3 (fun _=>rfl) Z j 2 i (by omega);rw[t,Nat.add_zero]at l;rw[t]at o p;exact⟨by rw[Bf h.row (j*3) (by omega),l];rfl,by rw[Bf h.row (j*3+1) (by omega),o];rfl,by rw[Bf h.row (j*3+2) (by omega),p];rfl,GX h.row _⟩
theorem CB.An(h:CB w wr mm nD ob oc m tv Z todo D):∃i,Ah wr ob 242 i/\w.heap.size<=ob:=by
 rcases h.row.2 with⟨j,_⟩|⟨p,cap,i,j,l,o,_⟩
 ·cases j
 ·cases j;exact⟨i,o,l⟩
theorem CB.KI(h:CB w wr mm nD ob oc m tv Z todo D){j:Nat}{z:AA×AQ}(i:Z[j]?=some z):AK wr z.1 z.2.set/\z.1.n=m:=by have l:=h.AJ.at_ j z.1 (by rw[pG,i];rfl);rw[dG,pG,i]at l;exact⟨l,h.AJ.room z.1 (List.mem_map.2 ⟨z,mG i,rfl⟩)⟩
theorem CB.apart(h:CB w wr mm nD ob oc m tv Z todo D){i j:Nat}{y z:AA×AQ}(o:Z[i]?=some y)(p:Z[j]?=some z)(l:i≠j):y.1.wb≠z.1.wb:=by
 intro e;refine l (Pf h.AJ.apart (a:=y.1.wb) ?_ ?_)
 ·rw[pG,pG,o];rfl
 ·rw[pG,pG,p,e];rfl
theorem gU(out:List AQ)(j:Nat)(c:AQ)(s:Nat)(h:∀d,out[j]?=some d->d.s=c.s):EE (out.set j c) s=EE out s:=by
 unfold EE;induction out generalizing j with
 | nil=>rfl
 | cons a out l=>
  cases j with
  | zero=>have:=h a rfl;rw[List.set_cons_zero,List.findIdx?_cons,List.findIdx?_cons,this]
  | succ j=>rw[List.set_cons_succ,List.findIdx?_cons,List.findIdx?_cons,l j (fun d i=>h d (by simpa using i))]
theorem Wb(out:List AQ)(c:AQ)(h:EE out c.s=none)(s:Nat):(if s=c.s then some out.length else EE out s)=EE (out++[c]) s:=by
 unfold EE at *;rw[List.findIdx?_append];by_cases i:s=c.s
 ·subst i
  rw[if_pos rfl,h];simp
 ·rw[if_neg i]
  have:(c.s==s)=false:=beq_false_of_ne (fun e=>i e.symm);cases out.findIdx? (fun x=>x.s==s)<;>simp[this]
theorem T5(r:List (AA×AQ))(k:Nat)(z:AA×AQ)(S:Nat)(i:r[k]?=some z):(r.flatMap Fq).set (k*3+2) (.bool true)=(r.set k (z.1,⟨z.2.s,S,true⟩)).flatMap Fq:=by
 induction r generalizing k with
 | nil=>simp at i
 | cons x r l=>
  cases k with
  | zero=>simp at i;subst i;rfl
  | succ k=>
   have j:(k+1)*3+2=k*3+2+3:=by omega
   have h:=l k (by simpa using i);rw[List.flatMap_cons,List.set_cons_succ,List.flatMap_cons,<-h,j];rfl
theorem eS(r:List (AA×AQ))(k:Nat)(z:AA×AQ)(S:Nat)(i:r[k]?=some z):(r.set k (z.1,⟨z.2.s,S,z.2.self⟩)).flatMap Fq=r.flatMap Fq:=by
 induction r generalizing k with
 | nil=>simp at i
 | cons x r j=>
  cases k with
  | zero=>simp at i;subst i;rfl
  | succ k=>have h:=j k (by simpa using i);rw[List.set_cons_succ,List.flatMap_cons,List.flatMap_cons,h]
theorem CB.handed(h:CB w wr mm nD ob oc m tv Z todo D){j:Nat}{z:AA×AQ}(o:Z[j]?=some z){r:AQ×Bool}(C:r.1.s=z.2.s){e:Ending}(he:Pl wr ob (j*3) z.1 z.2.self r e w2):CB w w2 mm nD ob oc m tv (Z.set j (z.1,r.1)) todo D/\Aj (fun k=>k=ob\/k=z.1.wb) wr w2:=by
 obtain⟨-,p,i,hs,hw⟩:=he;obtain⟨a3,a6,ab⟩:=h.An;have a1:=h.KI o;have ad:=h.new z (mG o);have hj:=(sG.1 o).1;have a7:ob≠z.1.wb:=Ah.A8 a6 a1.1.words (by decide);have P:=i.An a6 a7;have aa:=i.own h.row (fun k l e=>by cases l;exact a7 e);have R:(Z.map (·.1))[j]?=some z.1:=by rw[pG,o];rfl
 have U:Bu p m (Z.map (·.1)) ((Z.map (·.2.set)).set j r.1.set):=h.AJ.EG R hs i;have a9:B8 p w.heap.size 3 1 tv todo.length (todo.map AU):=h.Ja.Aw (X:=fun _=>True) (fun g a3 t _=>i.An t (fun e=>Ah.A8 t a1.1.words (by decide) e));have a0:=i.map h.map (fun e=>Dr h.map a1.1.words e.symm);have a5:Below w.heap.size w p:=h.below.trans (i.below h.below.size (fun k l e=>by omega));have e1:(Z.set j (z.1,r.1)).map (·.1)=Z.map (·.1):=by rw[List.map_set];exact QV R
 have e2:(Z.set j (z.1,r.1)).map (·.2.set)=(Z.map (·.2.set)).set j r.1.set:=by rw[List.map_set]
 have e3:(Z.set j (z.1,r.1)).map (·.2)=(Z.map (·.2)).set j r.1:=by rw[List.map_set]
 have a4:DZ D (EE ((Z.set j (z.1,r.1)).map (·.2))):=h.at_.congr fun s=>by
  rw[e3,gU];intro d hd;rw[pG,o]at hd;cases hd
  exact C.symm
 have a8:∀y∈Z.set j (z.1,r.1),w.heap.size<=y.1.h/\w.heap.size<=y.1.wb:=fun y hy=>by
  rcases List.mem_or_eq_of_mem_set hy with h1|rfl
  ·exact h.new y h1
  ·exact ad
 rcases hw with⟨rfl,I⟩|⟨rfl,I⟩
 ·refine⟨⟨a5,?_,by rw[e1,e2];exact U,a8,a9,a0,a4,h.lo,fun a2 hi=>by rw[List.length_set];exact h.tb a2 hi⟩,i.mono fun k l=>.inr l⟩
  have e4:=eS Z j z r.1.set o;have T:r.1=⟨z.2.s,r.1.set,z.2.self⟩:=by obtain⟨⟨a,b,c⟩,d⟩:=r;simp only at C I ⊢;rw[C,I]
  rw[T,List.length_set,e4];exact aa
 ·have J:Aj (·=ob) p (p.setCell ⟨ob,j*3+2,none⟩ (.bool true)):=Aj.set (X:=(·=ob)) (Aj.refl _ p) (p:=⟨ob,j*3+2,none⟩) (.inr rfl) _
  refine⟨⟨a5.setCell (p:=⟨ob,j*3+2,none⟩) ab _,?_,?_,a8,?_,J.map a0 (fun e=>Dr a0 P e.symm),a4,h.lo,fun a2 hi=>by rw[List.length_set];exact h.tb a2 hi⟩,(i.mono fun k l=>.inr l).next (J.mono fun k l=>.inl l)⟩
  ·have T:r.1=⟨z.2.s,r.1.set,true⟩:=by
    obtain⟨⟨a,b,c⟩,d⟩:=r;simp only at C I ⊢;rw[C,I]
   rw[T,List.length_set,<-T5 Z j z r.1.set o];exact GD aa (j*3+2) (by omega) _
  ·rw[e1,e2]
   refine U.Aw J (fun ae R=>?_);obtain⟨S,hS⟩:=U.mem R;exact⟨Ah.A8 hS.head P (by decide),Ah.A8 hS.words P (by decide)⟩
  ·exact a9.Aw (X:=fun _=>True) (fun g a3 t _=>J.An t (fun e=>Ah.A8 t P (by decide) e))
theorem CB.QC(h:CB w wr mm nD ob oc m tv Z todo D){p:Value}{i:Nat}(t:i<Z.length)(I:B8 w2 w.heap.size 3 1 p (todo.length+1) (todo.map AU++[.int .i64 i]))(l:AI w.heap.size [3] wr w2):CB w w2 mm nD ob oc m p Z (todo++[i]) D:=
 ⟨h.below.trans (l.below h.below.size),l.own h.row (.inr (by decide)),h.AJ.keeps l (by decide) (by decide),h.new,by rw[By,B5];exact I,l.map h.map,h.at_,h.lo,fun j C=>by
  rcases mA.1 C with o|o
  ·exact h.tb j o
  ·rw[mS.1 o];exact t⟩
theorem CB.Lh{i:Nat}(h:CB w wr mm nD ob oc m tv Z (i::todo) D){l:Value}(p:B8 wr w.heap.size 3 1 l todo.length (todo.map AU)):CB w wr mm nD ob oc m l Z todo D:=
 ⟨h.below,h.row,h.AJ,h.new,p,h.map,h.at_,h.lo,fun j o=>h.tb j (List.mem_cons_of_mem _ o)⟩
theorem CB.more(h:CB w wr mm nD ob oc m tv Z todo D){y:Nat}(hy:EE (Z.map (·.2)) y=none){o I:World}(hm:Gj w2 mm (nD+1) (D.put (Ch y) (.lit (.int .i64 (Z.length:Nat)))))(hg:wr.grownBy w2 (some mm))(i:Below w2.heap.size w2 o){t:AA}(a3:AK o t 0)(hn:t.n=m)(a1:w2.heap.size<=t.h/\w2.heap.size<=t.wb)
  {A:Option Addr} {c:Nat} (T:I.ownsRow w.heap.size 242 3 (.slice A (Z.length+1) c) (Z.length+1) (Z.flatMap Fq++Fq (t,⟨y,0,false⟩))) (l:AI w.heap.size [242] o I):∃j,A=some ⟨j,0,none⟩/\CB w I mm (nD+1) j c m tv (Z++[(t,⟨y,0,false⟩)]) todo (D.put (Ch y) (.lit (.int .i64 (Z.length:Nat)))):=by
 obtain⟨j,c',U⟩:=MN T (by omega);cases U
 have C:Aj (·=mm) wr w2:=Aj.of_map hg;have a0:Bu w2 m (Z.map (·.1)) (Z.map (·.2.set)):=h.AJ.Aw C (fun a6 hp=>by obtain⟨S,J⟩:=h.AJ.mem hp;exact⟨Dr h.map J.head,Dr h.map J.words⟩)
 have P:Below w.heap.size w w2:=h.below.trans (C.below h.below.size (fun k hk e=>by have:=h.lo;omega));have a2:=P.size;have R:Below w.heap.size w o:=P.trans (i.mono a2);refine⟨j,rfl,⟨R.trans (l.below R.size),by rw[List.flatMap_append,B5];simpa using T,?_,?_,?_,l.map ((Aj.AH (X:=fun _=>False) i).map hm id),?_,h.lo,?_⟩⟩
 ·rw[By,By]
  exact(a0.push i a3 hn a1.2).keeps l (by decide) (by decide)
 ·intro z hz
  rcases mA.1 hz with p|p
  ·exact h.new z p
  ·rw[mS.1 p];simp only;omega
 ·exact((h.Ja.Aw (X:=fun _=>True) (fun g a5 i _=>C.An i (Dr h.map i))).below i).keeps l (by decide)
 ·refine(h.at_.next h.map.isMap y Z.length).congr fun s=>?_
  have:=Wb (Z.map (·.2)) ⟨y,0,false⟩ hy s;simp only[lM]at this;rw[this,By];rfl
 ·intro a4 hi
  have:=h.tb a4 hi;rw[B5];omega
end
end
theorem CB.hand{w wr:World}{R T p U m:Nat}{tv mp:Value}{Z:List (AA×AQ)}{a0:List Nat}{D:DataW Unit}(h:CB w wr R T p U m tv Z a0 D){i j sx S:Nat}{xs emp:Bool}{x z:AA×AQ}{o:AA}(t:Z[i]?=some x)(l:Z[j]?=some z)(a4:AK wr o S)(hn:o.n=m)(hw:o.wb<w.heap.size) :
  Calls Tryz.prog 199 #[mp,.agg #[.int .i64 sx,x.1.v,.bool xs],.pointer (some ⟨p,j*3,none⟩),.agg #[o.v,.bool emp]] wr fun e w'=>e=.returned (.bool (Cz xs x.2.set z.2 (i==j) (S,emp)).2)/\CB w w' R T p U m tv (Z.set j (z.1,(Cz xs x.2.set z.2 (i==j) (S,emp)).1)) a0 D/\Aj (fun k=>k=p\/k=z.1.wb) wr w':=by
 obtain⟨a1,a2⟩:=h.KI t;obtain⟨I,J⟩:=h.KI l;obtain⟨c0,c1,c2,c3⟩:=h.cells l;obtain⟨a5,a3,a6⟩:=h.An;have hz:=h.new z (mG l);have hs:(Cz xs x.2.set z.2 (i==j) (S,emp)).1.s=z.2.s:=by
  unfold Cz;split
  ·rfl
  ·split
   ·rfl
   ·split<;>rfl
 refine(Yc (mp:=mp) (sx:=sx) (s2:=z.2.s) (xs:=xs) (emp:=emp) (own:=i==j) a1 a4 I (a2.trans J.symm) (hn.trans J.symm) ?_ (by omega) c1 c2 c3 (Ah.A8 a3 I.words (by decide))).mono ?_
 ·by_cases C:i=j
  ·subst C
   rw[t]at l;cases l
   simp
  ·have:(i==j)=false:=beq_false_of_ne C
   rw[this,if_neg (by simp)];exact h.apart t l C
 ·intro e w' P
  have h1:=h.handed l hs P;exact⟨P.1,h1⟩
theorem Gz.Fit.MD{g:Gz}(h:g.Fit){k x:Nat}(i:x∈g.right k):x<=g.top:=by
 unfold Gz.right Gz.Cf at i;split at i
 ·simp at i
  rw[i];exact h.start.2
 ·rw[dG]at i
  cases j:g.R[k]? with
  | none=>rw[j]at i;cases i
  | some r=>rw[j]at i;exact(h.right r (mG j) x i).2
theorem fM{g:Gz}{T:List (List (Nat×Bool))}{i:Nat}{xs:Bool}{p:List AQ×List Nat}{k:Nat}(h:g.right k=[]):g.Fx T i xs p k=p:=by unfold Gz.Fx;rw[h]
theorem eX{g:Gz}{T:List (List (Nat×Bool))}{i:Nat}{xs:Bool}{p:List AQ×List Nat}{k y:Nat}{r:List Nat}(h:g.right k=y::r)(j:g.AV y=false):g.Fx T i xs p k=p:=by unfold Gz.Fx;rw[h];simp only;rw[if_pos j]
theorem T6{g:Gz}{T:List (List (Nat×Bool))}{i:Nat}{xs:Bool}{out:List AQ}{o:List Nat}{k y j:Nat}{r:List Nat}{ci l:AQ}(h:g.right k=y::r)(I:g.AV y=true)(p:EE out y=some j)(C:out[i]?=some ci)(t:out[j]?=some l):g.Fx T i xs (out,o) k=(out.set j (Cz xs ci.set l (i==j) (Gz.Gi T k 0)).1,if (Cz xs ci.set l (i==j) (Gz.Gi T k 0)).2 then o++[j] else o):=by unfold Gz.Fx;rw[h];simp only;rw[if_neg (by rw[I];simp)];unfold EE at p;rw[p];simp only;rw[dG,C,dG,t];rfl
theorem Zl{g:Gz}{T:List (List (Nat×Bool))}{i:Nat}{xs:Bool}{out:List AQ}{o:List Nat}{k y:Nat}{r:List Nat}{ci:AQ}(h:g.right k=y::r)(p:g.AV y=true)(l:EE out y=none)(j:out[i]?=some ci):g.Fx T i xs (out,o) k=((out++[(⟨y,0,false⟩:AQ)]).set out.length (Cz xs ci.set ⟨y,0,false⟩ (i==out.length) (Gz.Gi T k 0)).1,o++[out.length]):=by have t:=(sG.1 j).1;unfold Gz.Fx;rw[h];simp only;rw[if_neg (by rw[p];simp)];unfold EE at l;rw[l];simp only;rw[dG,j,show (i==out.length)=false from beq_false_of_ne (by omega),List.set_append_right _ _ (AG _),Nat.sub_self];rfl
def Ov(mb s i l j o:Nat)(tv:Value)(f:Nat->Value):Act:={tmps:=#[.pointer (some ⟨mb,0,none⟩),.int .i64 s,f 2,f 3,.slice none 0 0,.map (some i),.slice (some ⟨l,0,none⟩) j o,tv,f 8,f 9,f 10,f 11,f 12,f 13,f 14,f 15,f 16,f 17,f 18,f 19,f 20,f 21,f 22,f 23,f 24,f 25,f 26,f 27,f 28,f 29,f 30,f 31,f 32,f 33,f 34,f 35,f 36,f 37,f 38,f 39,f 40,f 41,f 42,f 43,f 44,f 45,f 46,f 47,f 48,f 49,f 50,f 51,f 52,f 53,f 54,f 55,f 56,f 57,f 58,f 59,f 60,f 61,f 62,f 63,f 64,f 65,f 66,f 67,f 68,f 69,f 70,f 71,f 72,f 73,f 74,f 75,f 76,f 77,f 78,f 79,f 80,f 81,f 82,f 83,f 84,f 85,f 86,f 87,f 88,f 89,f 90,f 91,f 92,f 93,f 94,f 95,f 96,f 97,f 98,f 99,f 100,f 101,f 102,f 103,f 104,f 105,f 106,f 107,f 108,f 109,f 110,f 111,f 112,f 113,f 114,f 115,f 116,f 117,f 118],defers:=[]}
theorem dJ{w:World}{mb s:Nat}{v rv uv cp:Value}{g:Gz}{T:List (List (Nat×Bool))}{CC:List AQ}(hg:GN w v g)(hm:∀j,j<4->w.cell? ⟨mb,j,none⟩=v.cells[j]?)(c5:w.cell? ⟨mb,5,none⟩=some rv)(c6:w.cell? ⟨mb,6,none⟩=some cp)(c7:w.cell? ⟨mb,7,none⟩=some uv)
  (hR:Dl (Old w.heap.size) w rv (g.R.length+1) g.right) (hU:Dl (Old w.heap.size) w uv (g.top+1) g.Cb) (hT:FH (Old w.heap.size) w (g.nt+1) cp (g.R.length+1) T) (e7:∀k,k<=g.R.length->(T.getD k []).length=(g.right k).length) (jg:g.nt<s) (hp:s<=g.top) (hc:g.JN T s=some CC) :
  Calls Tryz.prog 153 #[.pointer (some ⟨mb,0,none⟩),.int .i64 s] w fun e w'=>∃cv,e=.returned cv/\DV (fun b=>w.heap.size<=b/\b<w'.heap.size) w' (g.nt+1) cv CC/\Below w.heap.size w w':=by
 have bn:=hg.fit;have h1:=bn.nt;have j8:=bn.nn;have gz:=bn.nr;have j6:∀y:World,(Instr.makeMap 245 none).run Tryz.prog y=.ok (.map (some y.heap.size)) (y.alloc (.map #[] 0)):=fun y=>by kernel_rfl
 obtain⟨AT,cT,AN,cN,AR,cR,rfl,-,-⟩:=hg.open_;have di:mb<w.heap.size:=World.block_lt_of_cell? w _ (hm 0 (by omega));have HC:Hid (∀y,Below w.heap.size w y->y.cell? ⟨mb,0,none⟩=some (.slice AT g.nt cT)/\y.cell? ⟨mb,1,none⟩=some (.slice AN g.nn cN)/\y.cell? ⟨mb,2,none⟩=some (.slice AR g.R.length cR)/\y.cell? ⟨mb,3,none⟩=some (.int .i64 g.s)/\y.cell? ⟨mb,5,none⟩=some rv/\y.cell? ⟨mb,6,none⟩=some cp/\y.cell? ⟨mb,7,none⟩=some uv):=Hd (fun y C=>by
  have hh:∀j u,w.cell? ⟨mb,j,none⟩=some u->y.cell? ⟨mb,j,none⟩=some u:=fun j u hu=>(C.cell (p:=⟨mb,j,none⟩) di).trans hu
  exact⟨hh 0 _ (hm 0 (by omega)),hh 1 _ (hm 1 (by omega)),hh 2 _ (hm 2 (by omega)),hh 3 _ (hm 3 (by omega)),hh 5 _ c5,hh 6 _ c6,hh 7 _ c7⟩)
 have fq:Hid (∀y,Below w.heap.size w y->Dl (Old w.heap.size) y rv (g.R.length+1) g.right):=Hd (fun y C=>hR.Aw (Aj.AH (X:=fun b=>w.heap.size<=b) C) (fun b R h=>by unfold Old at R;omega));have g1:Hid (∀y,Below w.heap.size w y->Dl (Old w.heap.size) y uv (g.top+1) g.Cb):=Hd (fun y C=>hU.Aw (Aj.AH (X:=fun b=>w.heap.size<=b) C) (fun b R h=>by unfold Old at R;omega));have fx:Hid (∀y,Below w.heap.size w y->FH (Old w.heap.size) y (g.nt+1) cp (g.R.length+1) T):=Hd (fun y C=>hT.Aw (Aj.AH (X:=fun b=>w.heap.size<=b) C) (fun b R h=>by unfold Old at R;omega))
 have fj:=Hd (fun y (C:Below w.heap.size w y) (x:Nat)=>KJ (hg.later C) x);have dt:Hid (∀y,Below w.heap.size w y->Calls Tryz.prog 152 #[.pointer (some ⟨mb,0,none⟩),.slice none 0 0] y fun e w'=>∃h:AA,e=.returned h.v/\h.n=g.nt+1/\y.heap.size<=h.h/\y.heap.size<=h.wb/\AK w' h 0/\Below y.heap.size y w'):=Hd (fun y C=>by have h0:=(C.cell (p:=⟨mb,0,none⟩) di).trans (hm 0 (by omega));exact R9 (l:=[]) h0 h1 ⟨⟨none,0,rfl,fun k x U=>by simp at U⟩,by simp,fun A n c e=>by cases e;exact⟨AG _,fun _=>rfl⟩⟩ (fun x U=>by cases U))
 have dw:=Hd e7;have f8:=Hd hc;have fb:=Hd bn;have jl:g.top<=1000:=by unfold Gz.top;omega
 clear hg hm c5 c6 c7 hR hU hT e7 hc bn;go_enter Tryz.func153,Tryz.ntmps153
 go_wp2;refine Q3 0 (fun n a' wr=>∃(mm nD ob oc:Nat) (tv:Value) (Z:List (AA×AQ)) (ab:List Nat) (D:DataW Unit),Hid (CB w wr mm nD ob oc (g.nt+1) tv Z ab D)/\Hid (g.GO T n (Z.map (·.2)) ab=some CC)/\nD<=Z.length/\Z.length<=20000/\Hid (∀z∈Z,z.2.s<=g.top)/\a'=Ov mb s mm ob Z.length oc tv (fun i=>a'.tmps.getD i undef)) rfl ?pass ?first
 case first=>
  intro HJ;have fe:=Hd HJ;clear HJ;have ho:s<=100000:=by omega
  have dh:Gj (w.alloc (.map #[] 0)) w.heap.size 0 (.map []):=World.ownsMap_made (H:=Unit) w Tryz.prog 3 (plainElem Tryz.prog 3);obtain⟨w1,eo,ei,ef⟩:=L8 dh (by omega) (s:=s) (c:=0) ho (by omega);rw[show ((0:Nat):Int)=0 from rfl]at eo;have cs:Hid (Below w.heap.size w w1):=Hd (((Below.refl _ w).alloc (AG _) _).trans ((Aj.of_map ef).below (by simp) (fun k hk e=>by have e2:k=w.heap.size:=e;omega)));have fg:=Hd ei;have fd:=Hd dh.isMap;clear dh ei ef;go_wp2_with (
         go_at_call 152;refine(dt.out _ cs.out).mono ?_;rintro e w2 ⟨h0,rfl,az,bc,b5,b4,d8⟩
         have a6:=Hd (And.intro az (And.intro (And.intro bc b5) b4));have bp:=Hd d8;unfold AA.v;clear az bc b5 b4 d8)
  go_step3
  simp only[Exit.then];apply_assumption
  refine fe.out Gz.RU _ _ ?_;refine⟨w.heap.size,1,w2.heap.size,1,.slice (some ⟨w2.heap.size+1,0,none⟩) 1 1,[(h0,⟨s,0,true⟩)],[0],_,Hd (?_:CB _ _ _ _ _ _ _ _ _ _ (DataW.put (.map []) (Ch s) (.lit (.int .i64 ((0:Nat):Int))))),f8,AG _,by simp,Hd (fun z hz=>by rw[mS.1 hz];exact hp),rfl⟩;have i4:=cs.out.size;have i5:=bp.out.size;have ay:Below w.heap.size w w2:=cs.out.trans (bp.out.mono i4);obtain⟨az,⟨bc,b5⟩,b4⟩:=a6.out;refine⟨(ay.alloc ay.size _).alloc (by simp;omega) _,?_,?_,?_,?_,(((Aj.AH (X:=fun _=>False) bp.out).map fg.out id).alloc _).alloc _,?_,AG _,?_⟩
  ·refine⟨rfl,.inr ⟨w2.heap.size,1,#[.int .i64 s,h0.v,.bool true],rfl,ay.size,(Ah.new w2 242 _).alloc _,AG _,by decide,rfl,rfl⟩⟩
  ·have hf:=(Bu.nil w1 (g.nt+1)).push bp.out b4 az b5
   have gr:=(hf.later (Ea w2 (.cells #[.int .i64 s,h0.v,.bool true] 242))).later (Ea _ (.cells #[.int .i64 0] 3));exact gr
  ·intro z hz
   rw[mS.1 hz];simp only;omega
  ·refine⟨rfl,.inr ⟨w2.heap.size+1,0,1,#[.int .i64 0],rfl,by omega,Ah.newAt (by simp),AG _,by decide,by simp,fun j u hu=>?_⟩⟩
   match j,hu with
   | 0,hu=>simpa [AU] using hu
   | j+1,hu=>simp at hu
  ·refine(DZ.start.next fd.out s 0).congr fun a=>?_
   unfold EE;by_cases ha:a=s
   ·subst ha;simp
   ·have:(s==a)=false:=beq_false_of_ne (fun e=>ha e.symm)
    simp[ha,this]
  ·intro i hi
   rw[mS.1 hi];simp
 case pass=>
  rintro n a' wr ⟨mm,nD,ob,oc,tv,Z,ab,D,HS,cw,gx,jr,e3,ha⟩;obtain⟨f,hf⟩:∃f,a'=Ov mb s mm ob Z.length oc tv f:=⟨_,ha⟩
  clear ha;subst hf;unfold Ov;obtain⟨Aq,cq,hx⟩:=HS.out.Ja.shape;subst hx;cases n with
  | zero=>have h:=cw.out;simp[Gz.GO]at h
  | succ n=>
   cases ab with
   | nil=>
    have HE:Hid (Z.map (·.2)=CC):=Hd (by have h:=cw.out;unfold Gz.GO at h;exact Option.some.inj h);go_wp2;simp only[Exit.jump];go_ret;refine⟨_,rfl,?_,HS.out.below⟩;have hl:CC.length=Z.length:=by rw[<-HE.out,lM]
    obtain⟨ga,cd,h7⟩:=HS.out.An;have he:=Oz HS.out.row;unfold DV;rw[hl];refine⟨_,oc,rfl,he.1,by omega,fun k hk=>⟨ob,0,rfl,⟨h7,cd.lt⟩,cd.lt,fun j hj=>?_⟩⟩;obtain⟨z,hz⟩:∃z,Z[k]?=some z:=⟨_,eG hk⟩
    have gl:CC.getD k ⟨0,0,false⟩=z.2:=by rw[<-HE.out,dG,pG,hz];rfl
    obtain⟨c0,c1,c2,-⟩:=HS.out.cells hz;obtain⟨a1,a2⟩:=HS.out.KI hz;have f5:=HS.out.new z (mG hz);show ∃x,wr.cell? ⟨ob,0+k*3+j,none⟩=some x/\(if j=0 then x=.int .i64 ((CC.getD k ⟨0,0,false⟩).s:Nat) else if j=1 then ∃h:AA,x=h.v/\h.n=g.nt+1/\Ii (fun b=>w.heap.size<=b/\b<wr.heap.size) wr h (CC.getD k ⟨0,0,false⟩).set else x=.bool (CC.getD k ⟨0,0,false⟩).self)
    rw[gl,Nat.zero_add]
    match j,hj with
    | 0,_=>exact⟨_,c0,rfl⟩
    | 1,_=>exact⟨_,c1,z.1,rfl,a2,a1,⟨f5.1,a1.head.lt⟩,⟨f5.2,a1.words.lt⟩⟩
    | 2,_=>exact⟨_,c2,rfl⟩
   | cons i ab=>
    have b1:=cw.out;unfold Gz.GO at b1;have iz:Z.length+ab.length<=10000:=by
     split at b1
     ·cases b1
     ·rename_i h;rw[lM]at h;omega
    rw[if_neg (by rw[lM];omega)]at b1;have gu:=HS.out.tb i (by simp);obtain⟨⟨U,o⟩,ca⟩:∃z,Z[i]?=some z:=⟨_,eG gu⟩
    have eg:(Z.map (·.2)).getD i ⟨0,0,false⟩=o:=by rw[dG,pG,ca];rfl
    rw[eg]at b1;have f9:=Hd b1;obtain⟨q,off,gf,hd,ep,er⟩:=HS.out.Ja.at_ (by simp);subst gf;have q0:wr.cell? ⟨q,off,none⟩=some (.int .i64 i):=by have:=er 0 _ rfl;simpa [AU] using this
    simp only[List.length_cons]at ep;obtain⟨cm,h9,en⟩:∃cm:Nat,(if cq=1 then some (⟨q,off,none⟩:Addr) else some ⟨q,off+1,none⟩)=some ⟨q,cm,none⟩/\(cm=off+1\/(cq=1/\cm=off)):=by
     by_cases P:cq=1
     ·exact⟨off,by rw[if_pos P],.inr ⟨P,rfl⟩⟩
     ·exact⟨off+1,by rw[if_neg P],.inl rfl⟩
    have gp:(1:Int)<=(cq:Int):=by omega
    have gq:((ab.length:Int)+1)<=(cq:Int):=by omega
    have hb:(0:Int)<((ab.length:Int)+1):=by omega
    have cf:(((ab.length:Int)+1)==0)=false:=by rw[bN];omega
    have fs:=Hd (HS.out.Lh (B8.tail HS.out.Ja en));obtain⟨x0,x1,x2,-⟩:=HS.out.cells ca;simp only at x0 x1 x2;unfold AA.v at x1;have j2:(i:Int)<(Z.length:Int):=by omega
    have c8:=Hd (Ah.new wr 242 #[.int .i64 (o.s:Nat),.pointer (some ⟨U.h,0,none⟩),.bool o.self]);have d1:=Hd (fs.out.later (Ea wr (.cells #[.int .i64 (o.s:Nat),.pointer (some ⟨U.h,0,none⟩),.bool o.self] 242)));have e0:=Hd ca;clear er en b1 eg ca ep;have iy:o.s<=g.top:=e3.out _ (mG e0.out);obtain⟨y0,y1,y2,y3,y5,y6,y7⟩:=HC.out _ d1.out.below;obtain⟨bu,ou,cu,Ak,ck,i0,iv,hy,f0⟩:=(g1.out _ d1.out.below).at_ (k:=o.s) (by omega);subst i0;have g0:=Hd f0;have jh:(o.s:Int)<((g.top:Int)+1):=by omega
    have ji:(o.s:Int)<((g.top+1:Nat):Int):=by omega
    go_upto_region 8 with fail
    have gw:mb<(wr.alloc (.cells #[.int .i64 (o.s:Nat),.pointer (some ⟨U.h,0,none⟩),.bool o.self] 242)).heap.size:=by have:=HS.out.below.size;simp;omega
    have z0:(wr.alloc (.cells #[.int .i64 (o.s:Nat),.pointer (some ⟨U.h,0,none⟩),.bool o.self] 242)).cell? ⟨wr.heap.size,0,none⟩=some (.int .i64 (o.s:Nat)):=Ah.cell c8.out 0;have zl:wr.heap.size<(wr.alloc (.cells #[.int .i64 (o.s:Nat),.pointer (some ⟨U.h,0,none⟩),.bool o.self] 242)).heap.size:=Ah.lt c8.out;have h8:ob≠wr.heap.size:=by obtain⟨ga,cd,_⟩:=HS.out.An;have:=cd.lt;omega
    have je:(g.Cb o.s).length<=300:=AX (KC g o.s) gz;have b3:∀k∈g.Cb o.s,k<g.R.length:=fun k hk=>by unfold Gz.Cb at hk;exact List.mem_range.1 (List.mem_filter.1 hk).1
    have fl:=Hd b3;generalize et:g.Cb o.s=rules at *;have im:=Hd et;generalize el:rules.length=nr at *;have du:=Hd el;generalize f1:wr.heap.size=t at *;have g3:=Hd f1;generalize wr.alloc (.cells #[.int .i64 (o.s:Nat),.pointer (some ⟨U.h,0,none⟩),.bool o.self] 242)=W at *;clear et el f1 b3 f0 q0 h9 gp gq hb cf x0 x1 x2 hd;go_quiet (fail)
    have HD:∀n,Below W.heap.size W (W.drewN n):=fun n=>⟨rfl,rfl,rfl,AG _,fun _ _=>rfl⟩
    have fr:=Hd (d1.out.later (HD nq));have g2:=Hd (c8.out.below (HD nq) c8.out.lt);have fz:Hid (B0 (Old w.heap.size) (W.drewN nq) (.slice Ak nr ck) rules):=Hd (g0.out.Aw (Aj.AH (X:=fun _=>False) (HD nq)) (fun _ _=>id));generalize W.drewN nq=W1 at *;clear HD z0 zl hy y0 y1 y2 y3 y5 y6 y7 gw;go_wp2_with fail
    go_loopw [6,7,44] (fun ov tv jj wy=>∃(k af a5 ag:Nat) (l:List (AA×AQ)) (a4:List Nat) (D':DataW Unit),k<=nr/\jj=.int .i64 k/\ov=.slice (some ⟨a5,0,none⟩) l.length ag/\Hid (CB w wy mm af a5 ag (g.nt+1) tv l a4 D')/\Hid (Ah wy t 242 #[.int .i64 (o.s:Nat),.pointer (some ⟨U.h,0,none⟩),.bool o.self])/\a5≠t/\Hid ((l.map (·.2),a4)=(rules.take k).foldl (g.Fx T i o.self) (Z.map (·.2),ab))/\Hid (∃c,l[i]?=some (U,c))/\af<=l.length/\l.length<=Z.length+k/\a4.length<=ab.length+k/\Hid (∀z∈l,z.2.s<=g.top)/\Hid (B0 (Old w.heap.size) wy (.slice Ak nr ck) rules)) (fun _ _ jj _=>nr-(intOf jj).toNat)
    case atStart=>exact⟨0,nD,ob,oc,Z,ab,D,AP _,rfl,rfl,fr,g2,h8,Hd rfl,Hd ⟨o,e0.out⟩,gx,by omega,by omega,e3,fz⟩
    case round=>
     obtain⟨k,af,a5,ag,l,a4,D',hk,rfl,rfl,a6,a7,b0,dr,d6,dj,i5,jk,bb,b9⟩:=hrel;rename World=>w7
     by_cases gv:k<nr
     ·obtain⟨rk,b3⟩:∃x,rules[k]?=some x:=⟨_,eG (by rw[du.out];exact gv)⟩
      have jd:=fl.out rk (mG b3);obtain⟨bk,ok,gd,iq,ir,iw⟩:=b9.out.at_ b3;subst gd;have aq:=Hd a6.out.below;obtain⟨y0,y1,y2,y3,y5,y6,y7⟩:=HC.out _ aq.out;obtain⟨br,js,cr,ik,ip,hn,it,cg,bd⟩:=(fq.out _ aq.out).at_ (k:=rk) (by omega);subst hn;have bi:=Hd (KS (g.Fx T i o.self) rules (Z.map (·.2),ab) k rk b3);rw[<-dr.out]at bi;have jb:(rk:Int)<((g.R.length+1:Nat):Int):=by omega
      have jc:(rk:Int)<(g.R.length:Int)+1:=by omega
      have j9:(k:Int)<(nr:Int):=by omega
      clear b3;cases aa:g.right rk with
      | nil=>
       have cy:=Hd (bi.out.trans (fM aa));rw[aa]at cg bd;simp only[List.length_nil]at cg;clear aa;go_upto_region 12 with fail
       go_quiet (fail)
       have cx:Hid (Below w7.heap.size w7 (w7.drewN nq)):=Hd ⟨rfl,rfl,rfl,AG _,fun _ _=>rfl⟩;go_wp2_with fail
       go_roundw
       case rel=>exact⟨k+1,af,a5,ag,l,a4,D',by omega,by go_num,rfl,Hd (a6.out.later cx.out),Hd (a7.out.below cx.out a7.out.lt),b0,Hd cy.out.symm,d6,dj,by omega,by omega,bb,Hd (b9.out.Aw (Aj.AH (X:=fun _=>False) cx.out) (fun _ _=>id))⟩
       case measure=>simp[intOf];omega
      | cons y rest=>
       rw[aa]at cg bd;simp only[List.length_cons]at cg bd;obtain⟨bq,oq,gg,gi,d9,dc⟩:=bd.at_ (k:=0) rfl;subst gg;rw[Nat.add_zero]at dc;have f3:y<=g.top:=fb.out.MD (k:=rk) (x:=y) (by rw[aa];simp);have j7:(((rest.length:Int)+1)==0)=false:=by rw[bN];omega
       have ja:(0:Int)<(rest.length:Int)+1:=by omega
       have ai:Hid (Below w7.heap.size w7 w7.drew):=Hd ((Below.refl _ w7).drew);have bw:=Hd (fj.out w7.drew (aq.out.trans (ai.out.mono aq.out.size)) y);have ar:Hid (∀v,Below w7.heap.size w7 v->v.cell? ⟨mb,0,none⟩=some (.slice AT g.nt cT)/\v.cell? ⟨mb,1,none⟩=some (.slice AN g.nn cN)/\v.cell? ⟨mb,2,none⟩=some (.slice AR g.R.length cR)/\v.cell? ⟨mb,3,none⟩=some (.int .i64 g.s)/\v.cell? ⟨bq,oq,none⟩=some (.int .i64 y)):=Hd (fun v hv=>by obtain⟨a0,a1,a2,a3,-⟩:=HC.out _ (aq.out.trans (hv.mono aq.out.size));exact⟨a0,a1,a2,a3,(hv.cell (p:=⟨bq,oq,none⟩) d9).trans dc⟩)
       cases C:g.AV y with
       | false=>
        have cy:=Hd (bi.out.trans (eX aa C));have HY:=Hd C;clear aa C bd;go_upto_region 12 with fail
        go_region_held3 (fun v=>v.cell? ⟨mb,0,none⟩=some (.slice AT g.nt cT)/\v.cell? ⟨mb,1,none⟩=some (.slice AN g.nn cN)/\v.cell? ⟨mb,2,none⟩=some (.slice AR g.R.length cR)/\v.cell? ⟨mb,3,none⟩=some (.int .i64 g.s)/\v.cell? ⟨bq,oq,none⟩=some (.int .i64 y))
          (first|exact ar.out _ ai.out|exact ar.out _ p.out)
          (first|(
                  go_at_call 40;refine bw.out.mono ?_;rintro e w8 ⟨rfl,ad⟩
                  rw[HY.out];have p:=Hd (ai.out.trans ad);clear ad))
        go_wp2_with fail
        go_roundw
        case rel=>exact⟨k+1,af,a5,ag,l,a4,D',by omega,by go_num,rfl,Hd (a6.out.later p.out),Hd (a7.out.below p.out a7.out.lt),b0,Hd cy.out.symm,d6,dj,by omega,by omega,bb,Hd (b9.out.Aw (Aj.AH (X:=fun _=>False) p.out) (fun _ _=>id))⟩
        case measure=>simp[intOf];omega
       | true=>
        have HY:=Hd C;obtain⟨ci,ak⟩:=d6.out;obtain⟨a8,cj⟩:∃a8,(T.getD rk [])[0]?=some a8:=⟨_,eG (by rw[dw.out rk (by omega),aa];simp)⟩
        have ev:Gz.Gi T rk 0=a8:=by unfold Gz.Gi;rw[dG,cj];rfl
        obtain⟨bt,ot,ct,xt,hs,⟨da,iu⟩,dd,ew⟩:=(fx.out _ aq.out).at_ (k:=rk) (by omega);subst hs;obtain⟨b2,o2,c2,ht,i3,⟨cc,d8⟩,dk,dm,ez,ch⟩:=ew.at_ cj;subst i3;rw[Nat.zero_mul,Nat.add_zero]at dk dm;have da:bt<w.heap.size:=da;have cc:b2<w.heap.size:=cc;have dn:ht.wb<w.heap.size:=ch.2.2;have fw:=Hd dn;have dx:=Hd ch.1;have hr:ht.h<w.heap.size:=ch.2.1;have fu:=Hd hr;have hw:(0:Int)<((T.getD rk []).length:Int):=by have:=dw.out rk (by omega);rw[aa,List.length_cons]at this;omega
        obtain⟨cn,ey⟩:∃n,(T.getD rk []).length=n:=⟨_,rfl⟩
        rw[ey]at dd hw;have jm:0<cn:=by omega
        have jn:¬(cn=0):=by omega
        have e6:∀v v',Below w7.heap.size w7 v->∀X:Nat->Prop,Aj X v v'->(∀q,X q->w.heap.size<=q/\q≠t)->v'.cell? ⟨t,0,none⟩=some (.int .i64 (o.s:Nat))/\v'.cell? ⟨t,1,none⟩=some (.pointer (some ⟨U.h,0,none⟩))/\v'.cell? ⟨t,2,none⟩=some (.bool o.self)/\v'.cell? ⟨mb,6,none⟩=some (.slice (some ⟨bt,ot,none⟩) (g.R.length+1) ct)/\v'.cell? ⟨bt,ot+rk,none⟩=some (.slice (some ⟨b2,o2,none⟩) cn c2)/\v'.cell? ⟨b2,o2,none⟩=some (.pointer (some ⟨ht.h,0,none⟩))/\v'.cell? ⟨b2,o2+1,none⟩=some (.bool a8.2):=fun v v' hv X hc hX=>by
          have jo:=hv.size;have jq:=aq.out.size;have i2:=a7.out.lt;have gj:=a7.out.below hv i2;have Kg:∀(b j:Nat) (u:Value),b<w.heap.size->w7.cell? ⟨b,j,none⟩=some u->v'.cell? ⟨b,j,none⟩=some u:=fun b j u R hu=>(hc.cell (by omega) (fun e=>by have:=(hX b e).1;omega) j).trans ((hv.cell (p:=⟨b,j,none⟩) (by show b<w7.heap.size;omega)).trans hu)
          have ay:=hc.An gj (fun e=>(hX t e).2 rfl);exact⟨Ah.cell ay 0,Ah.cell ay 1,Ah.cell ay 2,Kg mb 6 _ di y6,Kg bt _ _ da dd,Kg b2 _ _ cc dk,Kg b2 _ _ cc dm⟩
        have bz:=Hd e6;have jf:(rk:Int)<((g.R.length+1:Nat):Int):=by omega
        clear e6 ew ch dd dk dm bd ey;have cl:y<=100000:=by omega
        cases hj:EE (l.map (·.2)) y with
        | some j=>
          have eh:j<l.length:=by unfold EE at hj;have:=(List.findIdx?_eq_some_iff_findIdx_eq.1 hj).1;simpa using this
          obtain⟨z,hz⟩:∃z,l[j]?=some z:=⟨_,eG eh⟩
          have an:=bi.out.trans (T6 aa C hj (by rw[pG,ak];rfl) (by rw[pG,hz];rfl));rw[ev]at an;have ae:=Hd (fun v (hv:Below w7.heap.size w7 v)=>(a6.out.later hv).hand (mp:=.pointer (some ⟨mb,0,none⟩)) (sx:=o.s) (xs:=o.self) (emp:=a8.2) ak hz (dx.out.later hv) ez dn);have ee:Cz o.self ci.set z.2 (i==j) (a8.1,a8.2)=Cz o.self ci.set z.2 (i==j) a8:=rfl;simp only[ee]at ae;have dp:(Cz o.self ci.set z.2 (i==j) a8).1.s=z.2.s:=by
           unfold Cz;split
           ·rfl
           ·split
            · rfl
            · split<;>rfl
          generalize be:Cz o.self ci.set z.2 (i==j) a8=rr at *;obtain⟨rc,rb⟩:=rr;simp only at an ae dp;have bx:=Hd an;have HJ:=Hd hj;have f4:=a6.out.new z (mG hz);have i1:=a7.out.lt;have cf:z.1.wb≠t:=fun e=>Ah.A8 a7.out (a6.out.KI hz).1.words (by decide) e.symm
          have e5:=Hd (And.intro f4.2 (And.intro cf b0));have av:=a6.out.An;obtain⟨_,_,av⟩:=av;have dv:=Hd av;have j5:(j:Int)<(l.length:Int):=by omega
          have dz:Hid ((l.set j (z.1,rc))[i]?=some (U,if i=j then rc else ci)):=Hd (by
           by_cases df:i=j
           ·subst df
            rw[ak]at hz;cases hz
            rw[tG eh,if_pos rfl]
           ·rw[uG (fun e=>df e.symm),ak,if_neg df])
          have e1:Hid ((l.set j (z.1,rc)).map (·.2)=(l.map (·.2)).set j rc):=Hd (by rw[List.map_set]);have e4:Hid (∀y∈l.set j (z.1,rc),y.2.s<=g.top):=Hd (fun y C=>by
           rcases List.mem_or_eq_of_mem_set C with P|rfl
           ·exact bb.out y P
           ·simp only;rw[dp];exact bb.out z (mG hz))
          clear aa C hj an cj hz ak f4 i1 cf av ee be dp;cases rb with
          | false=>
           go_upto_region 12 with fail
           go_region_held3 (fun v=>v.cell? ⟨mb,0,none⟩=some (.slice AT g.nt cT)/\v.cell? ⟨mb,1,none⟩=some (.slice AN g.nn cN)/\v.cell? ⟨mb,2,none⟩=some (.slice AR g.R.length cR)/\v.cell? ⟨mb,3,none⟩=some (.int .i64 g.s)/\v.cell? ⟨bq,oq,none⟩=some (.int .i64 y))
            (first|exact ar.out _ ai.out|exact ar.out _ p.out)
            (first|(
                    go_at_call 40;refine bw.out.mono ?_;rintro e w8 ⟨rfl,ad⟩
                    rw[HY.out];have p:=Hd (ai.out.trans ad);have a9:=Hd (a6.out.later p.out);have au:=Mj a9.out.map a9.out.at_ cl;rw[HJ.out]at au;simp only[Option.getD_some,Option.isSome_some]at au;clear ad))
           go_upto_region 18 with fail
           go_region_held3 (fun v'=>v'.cell? ⟨t,0,none⟩=some (.int .i64 (o.s:Nat))/\v'.cell? ⟨t,1,none⟩=some (.pointer (some ⟨U.h,0,none⟩))/\v'.cell? ⟨t,2,none⟩=some (.bool o.self)/\v'.cell? ⟨mb,6,none⟩=some (.slice (some ⟨bt,ot,none⟩) (g.R.length+1) ct)/\v'.cell? ⟨bt,ot+rk,none⟩=some (.slice (some ⟨b2,o2,none⟩) cn c2)/\v'.cell? ⟨b2,o2,none⟩=some (.pointer (some ⟨ht.h,0,none⟩))/\v'.cell? ⟨b2,o2+1,none⟩=some (.bool a8.2))
            (first|exact bz.out w8.drew w8.drew p.out.drew (fun _=>False) (Aj.refl _ _) (fun _ h=>h.elim)|exact bz.out w8.drew J p.out.drew _ ah.out ba.out)
            (first|(
                    go_at_call 199;refine(ae.out _ p.out.drew).mono ?_;rintro e J ⟨rfl,bo,al⟩
                    have aj:=Hd bo;have ah:=Hd al;have ba:Hid (∀q,(q=a5\/q=z.1.wb)->w.heap.size<=q/\q≠t):=Hd (fun q hq=>by
                     have P:=e5.out;have h2:=dv.out;rcases hq with rfl|rfl
                     ·exact⟨h2,P.2.2⟩
                     ·exact⟨P.1,P.2.1⟩)
                    have bm:=Hd (al.An (a7.out.below p.out.drew a7.out.lt) (fun e=>(ba.out t e).2 rfl));have bj:Hid (B0 (Old w.heap.size) J (.slice (some ⟨bk,ok,none⟩) nr ck) rules):=Hd ((b9.out.Aw (Aj.AH (X:=fun _=>False) p.out.drew) (fun _ _=>id)).Aw al (fun b R e=>by have:=(ba.out b e).1;unfold Old at R;omega));clear bo al))
           all_goals go_wp2_with fail
           all_goals go_roundw
           all_goals first
            | (simp[intOf];omega)
            | exact⟨k+1,af,a5,ag,l.set j (z.1,rc),a4,D',by omega,by go_num,by rw[List.length_set],aj,bm,b0,Hd (by rw[bx.out,e1.out];rfl),Hd ⟨_,dz.out⟩,by rw[List.length_set];omega,by rw[List.length_set];omega,by omega,e4,bj⟩
          | true=>
           go_upto_region 12 with fail
           go_region_held3 (fun v=>v.cell? ⟨mb,0,none⟩=some (.slice AT g.nt cT)/\v.cell? ⟨mb,1,none⟩=some (.slice AN g.nn cN)/\v.cell? ⟨mb,2,none⟩=some (.slice AR g.R.length cR)/\v.cell? ⟨mb,3,none⟩=some (.int .i64 g.s)/\v.cell? ⟨bq,oq,none⟩=some (.int .i64 y))
            (first|exact ar.out _ ai.out|exact ar.out _ p.out)
            (first|(
                    go_at_call 40;refine bw.out.mono ?_;rintro e w8 ⟨rfl,ad⟩
                    rw[HY.out];have p:=Hd (ai.out.trans ad);have a9:=Hd (a6.out.later p.out);have au:=Mj a9.out.map a9.out.at_ cl;rw[HJ.out]at au;simp only[Option.getD_some,Option.isSome_some]at au;clear ad))
           go_upto_region 18 with fail
           obtain⟨i9,ia,ib,ic,ie,ig,ih⟩:=bz.out w8 w8 p.out (fun _=>False) (Aj.refl _ _) (fun _ h=>h.elim);first|(go_region_law (first|(
                         go_simp;go_at_call 199;refine(ae.out _ p.out.drew).mono ?_;rintro e J ⟨rfl,bo,al⟩;have aj:=Hd bo;have ah:=Hd al;have ba:Hid (∀q,(q=a5\/q=z.1.wb)->w.heap.size<=q/\q≠t):=Hd (fun q hq=>by
                          have P:=e5.out;have h2:=dv.out;rcases hq with rfl|rfl
                          ·exact⟨h2,P.2.2⟩
                          ·exact⟨P.1,P.2.1⟩)
                         have bm:=Hd (al.An (a7.out.below p.out.drew a7.out.lt) (fun e=>(ba.out t e).2 rfl));have bj:Hid (B0 (Old w.heap.size) J (.slice (some ⟨bk,ok,none⟩) nr ck) rules):=Hd ((b9.out.Aw (Aj.AH (X:=fun _=>False) p.out.drew) (fun _ _=>id)).Aw al (fun b R e=>by have:=(ba.out b e).1;unfold Old at R;omega));clear bo al)))|fail
           all_goals go_wp2_with (
                        at_builtin;refine No Ip (.tmp 114) (.tmp 116) rfl rfl (base:=w.heap.size) (n:=a4.length) (m:=1) (N:=a4.length+1) (xs:=a4.map AU) (news:=[.int .i64 j]) rfl rfl (aj.out.later (Ay J (.cells #[.int .i64 j] 3))).Ja (Bc.An (c:=1) (cs:=[.int .i64 j]) (Ah.new J 3 _) rfl (by simp[Value.oneCell'])) (by omega) rfl (by unfold maxLen;omega) (by omega) (aj.out.later (Ay J (.cells #[.int .i64 j] 3))).below.size ?_
                        intro f6 g9 b7 r1 I r3;have il:=Hd I;have d0:=Hd ((aj.out.later (Ay J (.cells #[.int .i64 j] 3))).QC (i:=j) (by rw[List.length_set];omega) r1 I);have d5:=Hd (I.An (bm.out.alloc (.cells #[.int .i64 j] 3)) (.inr (by decide)));have d3:=Hd ((bj.out.Aw (Aj.AH (X:=fun _=>False) (Ay J (.cells #[.int .i64 j] 3))) (fun _ _=>id)).Aw (X:=fun b=>w.heap.size<=b) ⟨I.os,I.tape,I.output,I.size,fun q hq U=>I.block q hq (.inl (by omega))⟩ (fun b R e=>by unfold Old at R;omega));clear r1 I r3)
           all_goals go_roundw
           all_goals first
            | (simp[intOf];omega)
            | exact⟨k+1,af,a5,ag,l.set j (z.1,rc),a4++[j],D',by omega,by go_num,by rw[List.length_set],Hd (by simpa using d0.out),d5,b0,Hd (by rw[bx.out,e1.out];rfl),Hd ⟨_,dz.out⟩,by rw[List.length_set];omega,by rw[List.length_set];omega,by simp;omega,e4,d3⟩
        | none=>
          have an:=bi.out.trans (Zl aa C hj (by rw[pG,ak];rfl));rw[ev,lM]at an;have HJ:=Hd hj;have gs:i<l.length:=(sG.1 ak).1;obtain⟨rr,be⟩:∃rr,Cz o.self ci.set ⟨y,0,false⟩ (i==l.length) a8=rr:=⟨_,rfl⟩
          rw[be]at an;have fo:=Hd be;have bx:=Hd an;have g5:=Hd ak;have i6:l.length<=100000:=by omega
          have gy:af<=10000000:=by omega
          obtain⟨_,_,av⟩:=a6.out.An;have dg:=a6.out.lo;have f2:w.heap.size<=t:=by rw[<-g3.out];exact HS.out.below.size
          have ek:mm≠t:=fun e=>(Dr a6.out.map a7.out) e.symm
          have bl:Hid (∀q,(q=mm\/q=a5)->w.heap.size<=q/\q≠t):=Hd (fun q hq=>by
           rcases hq with rfl|rfl
           ·exact⟨dg,ek⟩
           ·exact⟨av,b0⟩)
          have es:rr.1.s=y:=by
           rw[<-be];unfold Cz;split
           ·rfl
           ·split
            · rfl
            · split<;>rfl
          have fp:=Hd es;have j0:(i:Int)<(l.length:Int)+1:=by omega
          have j1:(i:Int)<((l.length+1:Nat):Int):=by omega
          have j3:(l.length:Int)<(l.length:Int)+1:=by omega
          have j4:(l.length:Int)<((l.length+1:Nat):Int):=by omega
          have ds:=Hd (show w.heap.size<=a5/\w.heap.size<=mm/\w.heap.size<=t from ⟨av,dg,f2⟩);have ed:bq<w.heap.size:=gi;have f7:=Hd ed;clear aa C hj an be cj ak av dg f2 ed ek es;go_upto_region 12 with fail
          go_region_held3 (fun v=>v.cell? ⟨mb,0,none⟩=some (.slice AT g.nt cT)/\v.cell? ⟨mb,1,none⟩=some (.slice AN g.nn cN)/\v.cell? ⟨mb,2,none⟩=some (.slice AR g.R.length cR)/\v.cell? ⟨mb,3,none⟩=some (.int .i64 g.s)/\v.cell? ⟨bq,oq,none⟩=some (.int .i64 y))
           (first|exact ar.out _ ai.out|exact ar.out _ p.out)
           (first|(
                   go_at_call 40;refine bw.out.mono ?_;rintro e w8 ⟨rfl,ad⟩
                   rw[HY.out];have p:=Hd (ai.out.trans ad);have a9:=Hd (a6.out.later p.out);have au:=Mj a9.out.map a9.out.at_ cl;rw[HJ.out]at au;simp only[Option.getD_none,Option.isSome_none]at au;obtain⟨J,eo,ej,de⟩:=L8 a9.out.map gy cl (c:=l.length) i6;have fh:=Hd ej;have fc:=Hd de;have ah:Hid (Aj (·=mm) w8 J):=Hd (Aj.of_map de);have ec:bq<w8.heap.size:=A0 d9 p.out.size;have gm:J.cell? ⟨bq,oq,none⟩=some (.int .i64 y):=(ah.out.cell ec (fun e=>by have:=ds.out.2.1;have:=f7.out;omega) oq).trans ((p.out.cell (p:=⟨bq,oq,none⟩) d9).trans dc)
                   have dq:Hid (Below w.heap.size w J):=Hd (a9.out.below.trans (ah.out.below a9.out.below.size (fun q hq e=>by have:=ds.out.2.1;omega)));have ff:=Hd (dt.out J.drew dq.out.drew);clear ej de ad))
          go_upto_region 17 with fail
          have fm:Hid (J.ownsRow w.heap.size 242 3 (.slice (some ⟨a5,0,none⟩) l.length ag) l.length (l.flatMap Fq)):=Hd (ah.out.own a9.out.row (fun b R=>G0 a9.out.map a9.out.row b R));have gh:bq<J.heap.size:=A0 ec ah.out.size;go_region_law (first
           | (
             go_simp;go_at_call 152;refine ff.out.mono ?_;rintro e b6 ⟨t0,rfl,az,bc,b5,b4,hb10⟩;have ao:Hid (Below J.heap.size J b6):=Hd (((Below.refl _ J).drew).trans hb10);have ix:b6.cell? ⟨bq,oq,none⟩=some (.int .i64 y):=(ao.out.cell (p:=⟨bq,oq,none⟩) gh).trans gm;have d2:Hid (t0.n=g.nt+1/\(J.heap.size<=t0.h/\J.heap.size<=t0.wb)/\AK b6 t0 0):=Hd ⟨az,⟨bc,b5⟩,b4⟩;have bh:=Hd (Ea b6 (.cells #[.int .i64 y,.pointer (some ⟨t0.h,0,none⟩),.bool false] 242));unfold AA.v;clear az bc b5 b4 hb10)
           | (
             refine Ep UD (.tmp 86) (.tmp 93) ?_ ?_ (base:=w.heap.size) (n:=l.length) (m:=1) (N:=l.length+1) (v:=.slice (some ⟨a5,0,none⟩) l.length ag) (src:=.slice (some ⟨b6.heap.size,0,none⟩) 1 1) (xs:=l.flatMap Fq) (news:=Fq (t0,⟨y,0,false⟩)) ?_ ?_ ?_ ?_ ?_ ?_ ?_ ?_ ?_
             · rfl
             · rfl
             · rfl
             · rfl
             · exact AS (AS fm.out ao.out) bh.out
             · exact Bc.An (c:=1) (cs:=Fq (t0,⟨y,0,false⟩)) (Ah.new b6 242 _) rfl (fun u hu=>by unfold Fq at hu;simp at hu;rcases hu with rfl|rfl|rfl<;>rfl)
             · rfl
             · unfold maxLen;omega
             · omega
             · have P:=dq.out.size;have h2:=ao.out.size;simp;omega
             intro ij g8 aw r1 I r3;have fi:=a9.out.more HJ.out fh.out fc.out (ao.out.trans (bh.out.mono ao.out.size)) (d2.out.2.2.later bh.out) d2.out.1 d2.out.2.1 r1 I;obtain⟨bf,gb,cz⟩:=fi;subst gb;have cz:=Hd cz;have em:bf≠t:=by
               rcases r3.2 with e|e
               · have e2:some bf=some a5:=e
                 cases e2;exact b0
               · have e2:some bf=some (b6.alloc (.cells #[.int .i64 y,.pointer (some ⟨t0.h,0,none⟩),.bool false] 242)).heap.size:=e
                 have P:=a7.out.lt;have h2:=p.out.size;have h3:=ah.out.size;have h4:=ao.out.size;have h5:=bh.out.size;have h6:=Option.some.inj e2;omega
             have bv:Hid (Aj (fun q=>q=mm\/q=a5) w8 aw):=Hd (((ah.out.mono fun q hq=>.inl hq).next (Aj.AH (ao.out.trans (bh.out.mono ao.out.size)))).next ((Aj.Cw r3.1).mono fun q hq=>.inr (by cases hq;rfl)));clear r1 I r3))
          all_goals go_upto_region 18 with fail
          all_goals
           obtain⟨i9,ia,ib,ic,ie,ig,ih⟩:=bz.out w8 aw p.out _ bv.out bl.out;have d4:=Hd (bv.out.An (a7.out.below p.out a7.out.lt) (fun e=>(bl.out t e).2 rfl));have fy:Hid (B0 (Old w.heap.size) aw (.slice (some ⟨bk,ok,none⟩) nr ck) rules):=Hd ((b9.out.Aw (Aj.AH (X:=fun _=>False) p.out) (fun _ _=>id)).Aw bv.out (fun b R e=>by have:=(bl.out b e).1;unfold Old at R;omega));have fv:Hid (AK aw ht a8.1):=Hd ((dx.out.later p.out).Aw bv.out (fun e=>by have P:=(bl.out _ e).1;have h2:=fu.out;omega) (fun e=>by have P:=(bl.out _ e).1;have h2:=fw.out;omega))
           obtain⟨Z9,ax⟩:∃Z9,l++[(t0,⟨y,0,false⟩)]=Z9:=⟨_,rfl⟩
           have e9:Z9.length=l.length+1:=by rw[<-ax];simp
           have d7:Z9[i]?=some (U,ci):=by rw[<-ax,gL gs];exact g5.out
           have cb:Z9[l.length]?=some (t0,⟨y,0,false⟩):=by rw[<-ax];simp
           have ea:(Z9.set l.length (t0,rr.1)).map (fun z:AA×AQ=>z.2)=(l.map (fun z:AA×AQ=>z.2)++[(⟨y,0,false⟩:AQ)]).set l.length rr.1:=by rw[<-ax,List.map_set,By];rfl
           have eb:∀z∈Z9.set l.length (t0,rr.1),z.2.s<=g.top:=fun z hz=>by
            rcases List.mem_or_eq_of_mem_set hz with P|rfl
            · rw[<-ax]at P
              rcases mA.1 P with h2|h2
              · exact bb.out z h2
              · rw[mS.1 h2];exact f3
            · simp only;rw[fp.out];exact f3
           have e8:(Z9.set l.length (t0,rr.1))[i]?=some (U,ci):=by rw[uG (by omega),d7]
           have b8:=cz.out;rw[ax]at b8;have ae:=(b8.later (((Below.refl _ aw).drew))).hand (mp:=.pointer (some ⟨mb,0,none⟩)) (sx:=o.s) (xs:=o.self) (emp:=a8.2) d7 cb (fv.out.later ((Below.refl _ aw).drew)) ez dn;simp only[show Cz o.self ci.set (⟨y,0,false⟩:AQ) (i==l.length) (a8.1,a8.2)=rr from fo.out]at ae;have ae:=Hd ae;have g6:=Hd ea;have g7:=Hd eb;have g4:=Hd e8;have fk:Hid (w.heap.size<=bf):=Hd (by obtain⟨_,_,hh⟩:=b8.An;exact hh);have ft:Hid (w.heap.size<=t0.wb/\t0.wb≠t):=Hd (by have h0:=b8.new _ (mG cb);exact⟨h0.2,fun e=>Ah.A8 d4.out (b8.KI cb).1.words (by decide) e.symm⟩)
           have dy:Hid (∀q,(q=bf\/q=t0.wb)->w.heap.size<=q/\q≠t):=Hd (fun q hq=>by
            rcases hq with rfl|rfl
            · exact⟨fk.out,em⟩
            · exact ft.out)
           clear ax d7 cb ea eb e8 b8;have c9:=Hd e9;clear e9;obtain⟨rc,rb⟩:=rr;simp only at ae
          all_goals cases rb
          all_goals
           first|(go_region_law (first|(
                         go_simp;go_at_call 199;refine ae.out.mono ?_;rintro e b7 ⟨rfl,eu,db⟩;have aj:=Hd eu;have bm:=Hd (db.An (d4.out.below ((Below.refl _ aw).drew) d4.out.lt) (fun e=>(dy.out t e).2 rfl));have bj:Hid (B0 (Old w.heap.size) b7 (.slice (some ⟨bk,ok,none⟩) nr ck) rules):=Hd ((fy.out.Aw (Aj.AH (X:=fun _=>False) ((Below.refl _ aw).drew)) (fun _ _=>id)).Aw db (fun b R e=>by have:=(dy.out b e).1;unfold Old at R;omega));clear eu db)))|fail
          all_goals go_wp2_with (
                       at_builtin;refine No Ip (.tmp 114) (.tmp 116) rfl rfl (base:=w.heap.size) (n:=a4.length) (m:=1) (N:=a4.length+1) (xs:=a4.map AU) (news:=[.int .i64 l.length]) rfl rfl (aj.out.later (Ay b7 (.cells #[.int .i64 l.length] 3))).Ja (Bc.An (c:=1) (cs:=[.int .i64 l.length]) (Ah.new b7 3 _) rfl (by simp[Value.oneCell'])) (by omega) rfl (by unfold maxLen;omega) (by omega) (aj.out.later (Ay b7 (.cells #[.int .i64 l.length] 3))).below.size ?_
                       intro f6 g9 jt r1 I r3;have d0:=Hd ((aj.out.later (Ay b7 (.cells #[.int .i64 l.length] 3))).QC (i:=l.length) (by rw[List.length_set,c9.out];omega) r1 I);have d5:=Hd (I.An (bm.out.alloc (.cells #[.int .i64 l.length] 3)) (.inr (by decide)));have d3:=Hd ((bj.out.Aw (Aj.AH (X:=fun _=>False) (Ay b7 (.cells #[.int .i64 l.length] 3))) (fun _ _=>id)).Aw (X:=fun b=>w.heap.size<=b) ⟨I.os,I.tape,I.output,I.size,fun q hq U=>I.block q hq (.inl (by omega))⟩ (fun b R e=>by unfold Old at R;omega));clear r1 I r3)
          all_goals go_roundw
          all_goals first
           | (simp[intOf];omega)
           | exact⟨k+1,af+1,bf,g8,Z9.set l.length (t0,rc),a4++[l.length],_,by omega,by go_num,by rw[List.length_set,c9.out],Hd (by simpa using d0.out),d5,em,Hd ((congrArg (fun i7=>(i7,a4++[l.length])) g6.out).trans bx.out.symm),Hd ⟨_,g4.out⟩,by rw[List.length_set,c9.out];omega,by rw[List.length_set,c9.out];omega,by simp;omega,g7,d3⟩
     ·obtain rfl:k=nr:=by omega
      have fa:Hid (g.GO T n (l.map (·.2)) a4=some CC):=Hd (by have h:=f9.out;have h2:=dr.out;rw[Ds (by rw[du.out];omega)]at h2;rw[<-h2]at h;exact h)
      go_wp2_with fail
      go_step3
      refine Qv ?_;exact⟨n,Nat.lt_succ_self n,mm,af,a5,ag,_,l,a4,D',a6,fa,dj,by omega,bb,rfl⟩
structure EJ(w:World)(B g n c:Nat)(R:List (Value×List Nat)):Prop where
 row:w.ownsRow B 44 1 (.slice (some ⟨g,0,none⟩) n c) n (R.map (·.1))
 own:∀(k:Nat) (x:Value×List Nat),R[k]?=some x->w.ownsRow B 3 1 x.1 x.2.length (x.2.map AU)
 apart:∀(i j:Nat) (x y:Value×List Nat),R[i]?=some x->R[j]?=some y->i≠j->∀k,x.1.ownBlock=some k->y.1.ownBlock≠some k
theorem EJ.len{w:World}{B g n c:Nat}{R:List (Value×List Nat)}(h:EJ w B g n c R):R.length=n:=by have:=h.row.1;simpa using this
theorem EJ.later{w w':World}{B g n c:Nat}{R:List (Value×List Nat)}(h:EJ w B g n c R)(i:Below w.heap.size w w'):EJ w' B g n c R:=
 ⟨AS h.row i,fun k x j=>AS (h.own k x j) i,h.apart⟩
theorem EJ.Aw{X:Nat->Prop}{w w':World}{B g n c:Nat}{R:List (Value×List Nat)}(h:EJ w B g n c R)(i:Aj X w w')(o:¬X g)(l:∀(k:Nat) (x:Value×List Nat),R[k]?=some x->∀b,x.1.ownBlock=some b->¬X b):EJ w' B g n c R:=
 ⟨i.own h.row (fun k p=>by cases p;exact o),fun k x j=>i.own (h.own k x j) (l k x j),h.apart⟩
theorem EJ.An{w:World}{B g n c:Nat}{R:List (Value×List Nat)}(h:EJ w B g n c R):∃i,Ah w g 44 i:=by
 rcases h.row.2 with⟨j,_⟩|⟨o,cap,i,j,p,l,_⟩
 ·cases j
 ·cases j;exact⟨i,l⟩
theorem EJ.put{w W o:World}{B g n c:Nat}{R:List (Value×List Nat)}(h:EJ w B g n c R)(hW:Below w.heap.size w W){s:Nat}{x:Value×List Nat}(hx:R[s]?=some x){nv:Value}{l:List Nat}
  (r1:o.ownsRow B 3 1 nv l.length (l.map AU)) (r2:AI B [3] W o) (r3:W.grownBy o x.1.ownBlock/\(nv.ownBlock=x.1.ownBlock\/nv.ownBlock=some W.heap.size)):EJ (o.setCell ⟨g,s,none⟩ nv) B g n c (R.set s (nv,l)):=by
 have t:=h.later hW;obtain⟨U,a9⟩:=sG.1 hx;have a8:=h.len;obtain⟨a7,a4⟩:=t.An;have a2:=r2.An a4 (.inr (by decide));have hc:Aj (·=g) o (o.setCell ⟨g,s,none⟩ nv):=Aj.set (X:=(·=g)) (Aj.refl _ o) (p:=⟨g,s,none⟩) (.inr rfl) _;have a5:=r2.own t.row (.inr (by decide));refine⟨?_,?_,?_⟩
 ·have:=GD a5 s (by omega) nv
  rw[List.map_set];exact this
 ·intro k y j
  by_cases T:k=s
  ·subst T
   rw[tG U]at j;cases j
   exact hc.own r1 (Fj r1 a2 (by decide))
  ·rw[uG (fun e=>T e.symm)]at j
   have a6:=t.own k y j;have a3:o.ownsRow B 3 1 y.1 y.2.length (y.2.map AU):=(Aj.Cw r3.1).own a6 (fun b i he=>h.apart s k x y hx j (fun e=>T e.symm) b he i);exact hc.own a3 (Fj a3 a2 (by decide))
 ·intro a0 a1 a b ha i P k C I
  have key:∀(m:Nat) (y:Value×List Nat),R[m]?=some y->m≠s->∀k,nv.ownBlock=some k->y.1.ownBlock≠some k:=fun m y j hm k p h2=>by
   rcases r3.2 with e|e
   ·rw[e]at p
    exact h.apart s m x y hx j (fun e=>hm e.symm) k p h2
   ·rw[e]at p
    cases p
    have:=(B9 (t.own m y j) _ h2).1;omega
  by_cases J:a0=s
  ·subst J
   rw[tG U]at ha;cases ha
   rw[uG P]at i;exact key a1 b i (fun e=>P e.symm) k C I
  ·rw[uG (fun e=>J e.symm)]at ha
   by_cases hj:a1=s
   ·subst hj
    rw[tG U]at i;cases i
    exact key a0 a ha J k I C
   ·rw[uG (fun e=>hj e.symm)]at i
    exact h.apart a0 a1 a b ha i P k C I
theorem EJ.fresh(w:World){B n:Nat}(p:B<=w.heap.size)(I:n<=100000):EJ (w.alloc (.cells (Array.replicate n (.slice none 0 0)) 44)) B w.heap.size n n (List.replicate n (.slice none 0 0,[])):=by
 refine⟨⟨by simp,.inr ⟨w.heap.size,n,_,rfl,p,Ah.new w _ _,AG _,by unfold maxLen;omega,by simp,by simp⟩⟩,fun k x l=>?_,fun i j x y l J C k t=>?_⟩
 ·obtain⟨o,rfl⟩:=sG.1 l
  simp;exact⟨rfl,.inl ⟨rfl,rfl⟩⟩
 ·obtain⟨o,rfl⟩:=sG.1 l
  simp[Value.ownBlock]at t
def L4(l w:World)(g:Gz)(k:Nat)(e:Ending)(w':World):Prop:=∃i,e=.returned (.tuple #[.agg #[.int .i64 ((g.Cf k).1:Nat),i],.bool true])/\Bz w' i (g.right k)/\Below w.heap.size w w'/\(k<g.R.length->Bz l i (g.right k))/\(k=g.R.length->∃b,i=.slice (some ⟨b,0,none⟩) 1 1/\w.heap.size<=b/\∃j,Ah w' b 3 j)
theorem Q6{l w:World}{v:Value}{g:Gz}(h:GN l v g)(p:Below l.heap.size l w){k:Nat}(hk:k<=g.R.length):Calls Tryz.prog 26 #[v,.int .i64 k] w (L4 l w g k):=by
 have hf:=h.fit.nr;obtain⟨AT,cT,AN,cN,AR,cR,rfl,T,a1⟩:=h.open_;have J:∀k r,g.R[k]?=some r->∃b off i,AR=some ⟨b,off,none⟩/\b<w.heap.size/\w.cell? ⟨b,off+k*2,none⟩=some (.int .i64 r.1)/\w.cell? ⟨b,off+k*2+1,none⟩=some i/\Bz w i r.2/\Bz l i r.2:=fun k r j=>by obtain⟨b,off,i,h1,I,h3,h4,R⟩:=T k r j;exact⟨b,off,i,h1,A0 I p.size,(p.cell (p:=⟨b,off+k*2,none⟩) I).trans h3,(p.cell (p:=⟨b,off+k*2+1,none⟩) I).trans h4,R.later p,R⟩
 clear T;by_cases t:k=g.R.length
 ·have o:g.Cf k=(0,[g.s]):=by unfold Gz.Cf;rw[if_pos t]
  unfold L4 Gz.right;rw[o];clear h J;generalize g.R.length=nR at *;subst t;generalize g.nt=nt at *;generalize g.nn=nn at *;generalize g.s=C at *;go_enter Tryz.func26,Tryz.ntmps26
  go_wp2_with fail
  refine bodyPost_ret (Me rfl rfl (Ms (b:=w.heap.size+1) (u:=.int .i64 0) (rv:=.slice (some ⟨w.heap.size+1+1,0,none⟩) 1 1) ?_ ?_)) rfl ?_
  ·exact(Ah.alloc (Ah.newAt (by simp)) _).cell 0
  ·exact(Ah.alloc (Ah.newAt (by simp)) _).cell 1
  ·refine⟨_,rfl,?_,((Ay w _).alloc (by simp) _).alloc (by simp;omega) _,fun h=>absurd h (Nat.lt_irrefl _),fun _=>⟨_,rfl,by omega,_,Ah.newAt (by simp)⟩⟩
   refine G3 (B:=0) (l:=[C]) ?_ (by simp);refine⟨rfl,.inr ⟨w.heap.size+1+1,1,#[.int .i64 C],rfl,AP _,?_,by simp,by decide,rfl,rfl⟩⟩;exact Ah.newAt (by simp)
 ·obtain⟨r,j⟩:∃r,g.R[k]?=some r:=⟨_,eG (by omega)⟩
  obtain⟨b,off,i,rfl,hb,c0,c1,P,U⟩:=J k r j;have o:g.Cf k=r:=by unfold Gz.Cf;rw[if_neg t,dG,j];rfl
  unfold L4 Gz.right;rw[o];have HN:=Hd P;have a0:=Hd U;obtain⟨⟨ra,rc,rfl,-⟩,-,-⟩:=id P;have a2:k<g.R.length:=by omega
  clear h J P j o U;obtain⟨rl,rr⟩:=r;simp only at *;generalize rr.length=rn at *;generalize g.R.length=nR at *;generalize g.nt=nt at *;generalize g.nn=nn at *;generalize g.s=C at *;go_enter Tryz.func26,Tryz.ntmps26
  go_wp2_with fail
  refine bodyPost_ret (Me rfl rfl (Ms (b:=w.heap.size+1) (u:=.int .i64 rl) (rv:=.slice ra rn rc) ?_ ?_)) rfl ?_
  ·exact(Ah.newAt (by simp)).cell 0
  ·exact(Ah.newAt (by simp)).cell 1
  ·exact⟨_,rfl,HN.out.later (((Ay w _).alloc (by simp) _)),((Ay w _).alloc (by simp) _),fun _=>a0.out,fun h=>absurd h t⟩
theorem MC:El Tryz.prog 24 44 1 24:=El.of (z:=.slice none 0 0) Tryz.underlying24 (by kernel_rfl) rfl (by decide)
theorem Xo:El Tryz.prog 230 235 2 16:=El.of (z:=.agg #[.pointer none,.bool false]) Tryz.underlying230 (by kernel_rfl) rfl (by decide)
theorem fV:El Tryz.prog 187 230 1 24:=El.of (z:=.slice none 0 0) Tryz.underlying187 (by kernel_rfl) rfl (by decide)
abbrev EA(v t rv tlv I l j i o p:Value):Array Value:=v.cells++#[t,rv,tlv,I,l,j,i,o,p]
def Gz.GG(g:Gz)(k s:Nat):List Nat:=(List.range k).filter fun i=>(g.R.getD i (0,[])).1==s
theorem WE(g:Gz)(s:Nat):g.GG g.R.length s=g.Cb s:=rfl
theorem RS(g:Gz)(k s:Nat):g.GG (k+1) s=if (g.R.getD k (0,[])).1=s then g.GG k s++[k] else g.GG k s:=by
 unfold Gz.GG;rw[List.range_succ,List.filter_append];by_cases h:(g.R.getD k (0,[])).1=s
 ·have i:((g.R.getD k (0,[])).1==s)=true:=beq_iff_eq.2 h
  rw[if_pos h];simp only[List.filter_cons,i,List.filter_nil,if_true]
 ·have i:((g.R.getD k (0,[])).1==s)=false:=beq_false_of_ne h
  rw[if_neg h];simp only[List.filter_cons,i,List.filter_nil,Bool.false_eq_true,if_false,List.append_nil]
theorem Yk(g:Gz)(k s:Nat):(g.GG k s).length<=k:=by unfold Gz.GG;have:=List.length_filter_le (fun i=>(g.R.getD i (0,[])).1==s) (List.range k);rwa [List.length_range]at this
theorem Z7{g:Gz}{k N s:Nat}(I:(g.R.getD k (0,[])).1=s):((List.range N).map (g.GG k)).set s (g.GG k s++[k])=(List.range N).map (g.GG (k+1)):=by
 apply List.ext_getElem?;intro i;rw[List.getElem?_set];by_cases p:s=i
 ·subst p
  rw[if_pos rfl,lM,List.length_range,pG];by_cases l:s<N
  ·rw[if_pos l,List.getElem?_range l,Option.map_some,RS,if_pos I]
  ·rw[if_neg l,nG (by simp;omega)];rfl
 ·rw[if_neg p,pG,pG]
  cases J:(List.range N)[i]? with
  | none=>rfl
  | some j=>
   have t:j=i:=by obtain⟨P,o⟩:=sG.1 J;rw[List.getElem_range]at o;exact o.symm
   subst t;rw[Option.map_some,Option.map_some,RS,if_neg (by omega)]
theorem B0.mono{A A':Nat->Prop}{w:World}{v:Value}{l:List Nat}(h:B0 A w v l)(i:∀b,A b->A' b):B0 A' w v l:=⟨h.1,fun b j o=>i b (h.2 b j o)⟩
theorem Bk.mono{A A':Nat->Prop}{w:World}{v:Value}{n sz:Nat}{f f':Nat->Nat->Value->Prop}(h:Bk A w v n sz f)(I:∀b,A b->A' b)(U:∀k j x,k<n->j<sz->f k j x->f' k j x):Bk A' w v n sz f':=by obtain⟨o,c,hv,hn,hm,hr⟩:=h;refine⟨o,c,hv,hn,hm,fun k l=>?_⟩;obtain⟨b,off,J,P,a0,hx⟩:=hr k l;refine⟨b,off,J,I b P,a0,fun j i=>?_⟩;obtain⟨x,p,t⟩:=hx j i;exact⟨x,p,U k j x l i t⟩
theorem Dl.mono{A A':Nat->Prop}{w:World}{v:Value}{n:Nat}{f:Nat->List Nat}(h:Dl A w v n f)(i:∀b,A b->A' b):Dl A' w v n f:=Bk.mono h i (fun k j x _ _ l=>l.mono i)
theorem FV.mono{A A':Nat->Prop}{w:World}{m:Nat}{v:Value}{l:List (Nat×Bool)}(h:FV A w m v l)(i:∀b,A b->A' b):FV A' w m v l:=Bk.mono h i (fun k j x _ _ p=>by
 split at p
 ·rename_i o
  rw[if_pos o];obtain⟨h,t,I,J,P,U⟩:=p;exact⟨h,t,I,J,i _ P,i _ U⟩
 ·rename_i o
  rw[if_neg o];exact p)
theorem FH.mono{A A':Nat->Prop}{w:World}{m:Nat}{v:Value}{n:Nat}{T:List (List (Nat×Bool))}(h:FH A w m v n T)(i:∀b,A b->A' b):FH A' w m v n T:=Bk.mono h i (fun k j x _ _ l=>l.mono i)
theorem DV.mono{A A':Nat->Prop}{w:World}{m:Nat}{v:Value}{l:List AQ}(h:DV A w m v l)(j:∀b,A b->A' b):DV A' w m v l:=Bk.mono h j (fun k a0 x _ _ i=>by
 split at i
 ·rename_i o
  rw[if_pos o];exact i
 ·rename_i o
  rw[if_neg o];split at i
  ·rename_i p
   rw[if_pos p];obtain⟨h,t,I,J,P,U⟩:=i;exact⟨h,t,I,J,j _ P,j _ U⟩
  ·rename_i p
   rw[if_neg p];exact i)
theorem E0{X:Nat->Prop}{w:World}{B:Nat}{e:TypeId}{size n:Nat}{v:Value}{xs:List Value}(h:w.ownsRow B e size v n xs)(j:∀b cs,Ah w b e cs->¬X b):∀k,v.ownBlock=some k->¬X k:=by
 intro k i;rcases Bv h with⟨rfl,_⟩|⟨b,c,rfl,_,_,_,_,o,l⟩
 ·cases i
 ·cases i
  exact j _ _ l
theorem Bk.Ml{A:Nat->Prop}{w:World}{B:Nat}{e:TypeId}{n:Nat}{v:Value}{XS:List Value}{f:Nat->Nat->Value->Prop}(h:w.ownsRow B e 1 v n XS)(U:n<=1000000)(I:∀b,B<=b->b<w.heap.size->A b)(J:∀i x,XS[i]?=some x->f i 0 x):Bk A w v n 1 f:=by
 rcases Bv h with⟨rfl,rfl⟩|⟨b,c,rfl,p,l,t,_,_⟩
 ·exact⟨none,0,rfl,AG _,by omega,fun k P=>by omega⟩
 ·refine⟨_,c,rfl,t,U,fun k P=>⟨b,0,rfl,I b p l,l,fun j hj=>?_⟩⟩
  obtain rfl:j=0:=by omega
  have hl:=h.1;have o:XS[k]?=some (XS[k]'(by omega)):=eG (by omega);refine⟨_,?_,J k _ o⟩;rw[Nat.zero_add,Nat.add_zero,Nat.mul_one,Bf h k (by omega),o]
section
variable {w0 w w':World} {F:Fs} {g:Gz} {E:Nat} {C:List Nat}
theorem Br.QU{X:Nat->Prop}(h:Br w0 w F g E C)(j:Aj X w w')(I:∀b,X b->w0.heap.size<=b/\∃t cs,Ah w b t cs/\t≠279/\t≠161/\t≠156/\t≠90):Br w0 w' F g E C:=by
 have key:∀{b:Nat} {t:TypeId} {cs:Array Value},Ah w b t cs->(t=279\/t=161\/t=156\/t=90)->¬X b:=fun i U p=>by
  obtain⟨_,t',a2,l,n1,n2,n3,n4⟩:=I _ p;rcases U with rfl|rfl|rfl|rfl
  ·exact Ah.A8 i l (Ne.symm n1) rfl
  ·exact Ah.A8 i l (Ne.symm n2) rfl
  ·exact Ah.A8 i l (Ne.symm n3) rfl
  ·exact Ah.A8 i l (Ne.symm n4) rfl
 have J:∀{s:AA} {S:Nat},AK w s S->AK w' s S:=fun o=>o.Aw j (key o.head (.inr (.inl rfl))) (key o.words (.inr (.inr (.inl rfl))))
 refine⟨⟨j.An h.at_.An (key h.at_.An (.inl rfl)),J h.at_.e,h.at_.en,h.at_.Iq,j.own h.at_.bv (E0 h.at_.bv fun b cs i=>key i (.inr (.inr (.inr rfl)))),j.own h.at_.hv (E0 h.at_.hv fun b cs i=>key i (.inr (.inr (.inr rfl)))),h.at_.top⟩,⟨h.AJ.len,h.AJ.room,fun a0 a1 P=>J (h.AJ.at_ a0 a1 P),h.AJ.apart⟩,h.ne,h.new,h.below.trans (j.below h.below.size fun k hk p=>by have:=(I k p).1;omega)⟩
theorem Br.BE{j:World}(h:Br w j F g E C)(i:Below w0.heap.size w0 w):Br w0 j F g E C:=by have o:=i.size;obtain⟨I,J,P,t⟩:=h.new;exact⟨h.at_,h.AJ,h.ne,⟨by omega,by omega,by omega,fun p l=>by have:=t p l;omega⟩,i.trans (h.below.mono o)⟩
end
def RN(w0 w wr:World)(k n b:Nat):Prop:=b<w0.heap.size\/(n<k/\w.heap.size<=b/\∃i,Ah wr b 3 i)
def Kb(lo j:Nat)(wr:World)(b:Nat):Prop:=lo<=b/\b<j/\∃t i,Ah wr b t i/\(t=235\/t=161\/t=156)
structure Jy(w0 w wr:World)(F:Fs)(g:Gz)(E:Nat)(C:List Nat)(RV TV:List Value)(T:List (List (Nat×Bool))):Prop where
 below:Below w0.heap.size w0 wr
 size:w.heap.size<=wr.heap.size
 base:w0.heap.size<=w.heap.size
 fst:Br w0 wr F g E C
 G4:∀(i:Nat) (x:Value),RV[i]?=some x->B0 (RN w0 w wr RV.length g.R.length) wr x (g.right i)
 JC:∀(i:Nat) (x:Value),TV[i]?=some x->FV (Kb w.heap.size wr.heap.size wr) wr (g.nt+1) x (T.getD i [])
section
variable {w0 w wr w2 w3:World} {F:Fs} {g:Gz} {E:Nat} {C:List Nat} {RV TV:List Value} {T:List (List (Nat×Bool))}
theorem Jy.BZ{X:Nat->Prop}(h:Jy w0 w wr F g E C RV TV T)(p:Aj X wr w2)(P:∀b,X b->w0.heap.size<=b/\∃t cs,Ah wr b t cs/\t≠279/\t≠161/\t≠156/\t≠90/\t≠235/\(t=3->RV.length<=g.R.length)):Jy w0 w w2 F g E C RV TV T:=by
 have hs:=p.size;have a4:=h.size;refine⟨h.below.trans (p.below h.below.size fun k hk l=>by have:=(P k l).1;omega),by omega,h.base,h.fst.QU p fun b i=>?_,fun a0 x l=>?_,fun a0 x l=>?_⟩
 ·obtain⟨h1,t,cs,o,n1,n2,n3,n4,_⟩:=P b i
  exact⟨h1,t,cs,o,n1,n2,n3,n4⟩
 ·have no:∀b,RN w0 w wr RV.length g.R.length b->¬X b:=fun b i l=>by
   obtain⟨h1,t,cs,o,_,_,_,_,_,n6⟩:=P b l;rcases i with i|⟨U,a3,J,j⟩
   ·omega
   ·by_cases I:t=3
    ·have:=n6 I;omega
    ·exact Ah.A8 o j I rfl
  refine((h.G4 a0 x l).Aw p no).mono fun b i=>?_
  rcases id i with U|⟨U,a3,J,j⟩
  ·exact .inl U
  ·exact .inr ⟨U,a3,J,p.An j (no b i)⟩
 ·have no:∀b,Kb w.heap.size wr.heap.size wr b->¬X b:=fun b i l=>by
   obtain⟨h1,t,cs,o,n1,n2,n3,n4,n5,n6⟩:=P b l;obtain⟨_,_,t',J,j,I⟩:=i;rcases I with rfl|rfl|rfl
   ·exact Ah.A8 o j n5 rfl
   ·exact Ah.A8 o j n2 rfl
   ·exact Ah.A8 o j n3 rfl
  refine((h.JC a0 x l).Aw p no).mono fun b i=>?_
  obtain⟨a1,a2,t',J,j,I⟩:=id i;exact⟨a1,by omega,t',J,p.An j (no b i),I⟩
theorem Jy.later(h:Jy w0 w wr F g E C RV TV T)(i:Below wr.heap.size wr w2):Jy w0 w w2 F g E C RV TV T:=h.BZ (X:=fun _=>False) (Aj.AH i) (fun b i=>i.elim)
structure Cp(w0 w wr:World)(F:Fs)(g:Gz)(E:Nat)(C:List Nat)(rv tlv:Value)(ub uc kr:Nat)(RV TV:List Value)(R:List (Value×List Nat))(T:List (List (Nat×Bool))):Prop where
 CW:Jy w0 w wr F g E C RV TV T
 Hf:wr.ownsRow w.heap.size 44 1 rv RV.length RV
 AJ:EJ wr w.heap.size ub (g.top+1) uc R
 lists:R.map (·.2)=(List.range (g.top+1)).map (g.GG kr)
 GV:wr.ownsRow w.heap.size 230 1 tlv TV.length TV
 ne:rv.ownBlock≠some ub
variable {rv tlv:Value} {ub uc kr:Nat} {R:List (Value×List Nat)}
theorem Cp.later(h:Cp w0 w wr F g E C rv tlv ub uc kr RV TV R T)(i:Below wr.heap.size wr w2):Cp w0 w w2 F g E C rv tlv ub uc kr RV TV R T:=
 ⟨h.CW.later i,AS h.Hf i,h.AJ.later i,h.lists,AS h.GV i,h.ne⟩
theorem Cp.PM(h:Cp w0 w wr F g E C rv tlv ub uc kr RV TV R T){mb:Nat}{t:TypeId}{cs:Array Value}(o:Ah wr mb t cs)(h0:w0.heap.size<=mb)(n1:t≠279)(n2:t≠161)(n3:t≠156)(n4:t≠90)(n5:t≠235)(p:t≠3)(I:t≠44)(n8:t≠230)(j:Nat)(u:Value):Cp w0 w (wr.setCell ⟨mb,j,none⟩ u) F g E C rv tlv ub uc kr RV TV R T:=by
 have l:Aj (·=mb) wr (wr.setCell ⟨mb,j,none⟩ u):=Aj.set (X:=(·=mb)) (Aj.refl _ wr) (p:=⟨mb,j,none⟩) (.inr rfl) _;have no:∀{b:Nat} {J:TypeId} {cs:Array Value},Ah wr b J cs->t≠J->¬b=mb:=fun i U e=>by subst e;exact Ah.A8 o i U rfl
 refine⟨h.CW.BZ l fun b i=>?_,l.own h.Hf (E0 h.Hf fun b cs i=>no i I),h.AJ.Aw l ?_ (fun k x hx=>E0 (h.AJ.own k x hx) fun b cs i=>no i p),h.lists,l.own h.GV (E0 h.GV fun b cs i=>no i n8),h.ne⟩
 ·subst i
  exact⟨h0,_,_,o,n1,n2,n3,n4,n5,fun e=>absurd e p⟩
 ·obtain⟨a0,P⟩:=h.AJ.An
  exact no P I
theorem Cp.BE(h:Cp w0 w wr F g E C rv tlv ub uc kr RV TV R T){mb:Nat}{cs:Array Value}(i:Ah wr mb 192 cs)(h0:w0.heap.size<=mb)(j:Nat)(u:Value):Cp w0 w (wr.setCell ⟨mb,j,none⟩ u) F g E C rv tlv ub uc kr RV TV R T:=
 h.PM i h0 (by decide) (by decide) (by decide) (by decide) (by decide) (by decide) (by decide) (by decide) j u
theorem Cp.U2(h:Cp w0 w wr F g E C rv tlv ub uc kr RV TV R T)(hk:RV.length<=g.R.length){x:Value}{A:Option Addr}{c:Nat}(r1:w3.ownsRow w.heap.size 44 1 (.slice A (RV.length+1) c) (RV.length+1) (RV++[x]))(r3:wr.grownBy w3 rv.ownBlock/\((Value.slice A (RV.length+1) c).ownBlock=rv.ownBlock\/(Value.slice A (RV.length+1) c).ownBlock=some wr.heap.size))
  (U:Bz wr x (g.right RV.length)) (aa:RV.length<g.R.length->Bz w0 x (g.right RV.length)) (ab:RV.length=g.R.length->∃b,x=.slice (some ⟨b,0,none⟩) 1 1/\w.heap.size<=b/\∃cs,Ah wr b 3 cs):Cp w0 w w3 F g E C (.slice A (RV.length+1) c) tlv ub uc kr (RV++[x]) TV R T:=by
 have p:Aj (fun k=>rv.ownBlock=some k) wr w3:=Aj.Cw r3.1;have hX:∀b,rv.ownBlock=some b->w0.heap.size<=b/\∃cs,Ah wr b 44 cs:=fun b i=>by
  rcases Bv h.Hf with⟨l,_⟩|⟨b',c',l,o,_,_,_,a1,h3⟩
  ·rw[l]at i;cases i
  ·rw[l]at i
   have e:b'=b:=by simpa [Value.ownBlock] using i
   subst e;exact⟨AX h.CW.base o,a1,h3⟩
 have no:∀{b:Nat} {a2:TypeId} {cs:Array Value},Ah wr b a2 cs->a2≠44->¬rv.ownBlock=some b:=fun i ht e=>by obtain⟨_,cs,o⟩:=hX _ e;exact Ah.A8 i o ht rfl
 have j:=h.CW.BZ p fun b i=>by obtain⟨l,cs,o⟩:=hX b i;exact⟨l,_,cs,o,by decide,by decide,by decide,by decide,by decide,fun e=>by cases e⟩
 obtain⟨a1,a7⟩:=h.AJ.An;refine⟨⟨j.below,j.size,j.base,j.fst,fun a0 y I=>?_,j.JC⟩,by simpa using r1,h.AJ.Aw p (fun e=>h.ne e) (fun k x U=>E0 (h.AJ.own k x U) fun b cs i=>no i (by decide)),h.lists,p.own h.GV (E0 h.GV fun b cs i=>no i (by decide)),?_⟩
 ·by_cases hi:a0<RV.length
  ·rw[gL hi]at I
   refine(j.G4 a0 y I).mono fun b i=>?_
   rcases i with i|⟨l,_⟩
   ·exact .inl i
   ·omega
  ·have P:=(sG.1 I).1
   simp at P;obtain rfl:a0=RV.length:=by omega
   simp at I;subst I;rcases Nat.lt_or_ge RV.length g.R.length with a8|ad
   ·have h0:=aa a8
    refine⟨h0.later j.below,fun b i P=>.inl ?_⟩;obtain⟨⟨Ad,c',hv,a6⟩,_,_⟩:=h0;obtain⟨b2,off,a3,ae,_⟩:=a6 0 _ (eG P);rw[hv,a3]at i;have e:b2=b:=by simpa [Value.ownBlock] using i
    omega
   ·obtain⟨b,rfl,a4,cs,J⟩:=ab (by omega)
    have a5:=p.An J (no J (by decide));have a9:B0 (fun q=>q=b) wr (.slice (some ⟨b,0,none⟩) 1 1) (g.right RV.length):=⟨U,fun q t _=>by
     have e:b=q:=by simpa [Value.ownBlock] using t
     exact e.symm⟩
    refine(a9.Aw p fun q t=>by subst t;exact no J (by decide)).mono fun q t=>?_
    subst t;exact .inr ⟨by simp;omega,a4,cs,a5⟩
 ·rcases r3.2 with e|e
  ·rw[e];exact h.ne
  ·rw[e]
   intro e2;have e3:wr.heap.size=ub:=by simpa using e2
   have:=a7.lt;omega
theorem Cp.WS(h:Cp w0 w wr F g E C rv tlv ub uc kr RV TV R T)(U:RV.length<=g.R.length){s:Nat}{x:Value×List Nat}(hx:R[s]?=some x)(hs:(g.R.getD kr (0,[])).1=s){nv:Value}{W:World}(hW:Below wr.heap.size wr W)
  (r1:w3.ownsRow w.heap.size 3 1 nv (x.2.length+1) (x.2.map AU++[.int .i64 (kr:Nat)])) (r2:AI w.heap.size [3] W w3) (r3:W.grownBy w3 x.1.ownBlock/\(nv.ownBlock=x.1.ownBlock\/nv.ownBlock=some W.heap.size)):∃R',Cp w0 w (w3.setCell ⟨ub,s,none⟩ nv) F g E C rv tlv ub uc (kr+1) RV TV R' T:=by
 have p:=h.later hW;have I:Aj (fun k=>x.1.ownBlock=some k) W w3:=Aj.Cw r3.1;have a5:=p.AJ.own s x hx;have hX:∀b,x.1.ownBlock=some b->w0.heap.size<=b/\∃j,Ah W b 3 j:=fun b i=>by
  rcases Bv a5 with⟨t,_⟩|⟨b',c',t,l,_,_,_,J,o⟩
  ·rw[t]at i;cases i
  ·rw[t]at i
   have e:b'=b:=by simpa [Value.ownBlock] using i
   subst e;exact⟨AX h.CW.base l,J,o⟩
 have no:∀{b:Nat} {a3:TypeId} {j:Array Value},Ah W b a3 j->a3≠3->¬x.1.ownBlock=some b:=fun i ht e=>by obtain⟨_,j,l⟩:=hX _ e;exact Ah.A8 i l ht rfl
 have hf:=p.CW.BZ I fun b i=>by obtain⟨t,j,l⟩:=hX b i;exact⟨t,_,j,l,by decide,by decide,by decide,by decide,by decide,fun _=>U⟩
 have a4:=h.AJ.put hW hx (nv:=nv) (l:=x.2++[kr]) (by rw[B5,By];exact r1) r2 r3;obtain⟨J,a0⟩:=p.AJ.An;have a7:w.heap.size<=ub:=(B9 h.AJ.row ub rfl).2;have a1:Ah w3 ub 44 J:=I.An a0 (no a0 (by decide));have P:Aj (·=ub) w3 (w3.setCell ⟨ub,s,none⟩ nv):=Aj.set (X:=(·=ub)) (Aj.refl _ w3) (p:=⟨ub,s,none⟩) (.inr rfl) _;have a6:=I.own p.Hf (E0 p.Hf fun b j i=>no i (by decide));have a2:=I.own p.GV (E0 p.GV fun b j i=>no i (by decide));refine⟨R.set s (nv,x.2++[kr]),hf.BZ P fun b i=>?_,P.own a6 (fun k U e=>h.ne (by rw[U,e])),a4,?_,P.own a2 (E0 a2 fun b j i e=>by subst e;exact Ah.A8 i a1 (by decide) rfl),h.ne⟩
 ·subst i
  have:=h.CW.base;exact⟨by omega,_,_,a1,by decide,by decide,by decide,by decide,by decide,fun e=>by cases e⟩
 ·have l:x.2=g.GG kr s:=by
   have o:(R.map (·.2))[s]?=some x.2:=by rw[pG,hx];rfl
   rw[h.lists,pG]at o;cases hq:(List.range (g.top+1))[s]? with
   | none=>rw[hq]at o;cases o
   | some a8=>rw[hq]at o;obtain⟨h4,h5⟩:=sG.1 hq;rw[List.getElem_range]at h5;subst h5;simpa using o.symm
  rw[List.map_set,h.lists,<-Z7 hs,l]
theorem Cp.Lh(h:Cp w0 w wr F g E C rv tlv ub uc kr RV TV R T){x:Value}{l:List (Nat×Bool)}{A:Option Addr}{c:Nat}(r1:w3.ownsRow w.heap.size 230 1 (.slice A (TV.length+1) c) (TV.length+1) (TV++[x]))(r3:wr.grownBy w3 tlv.ownBlock)
  (hx:FV (Kb w.heap.size wr.heap.size wr) wr (g.nt+1) x l) (hT:T.length=TV.length):Cp w0 w w3 F g E C rv (.slice A (TV.length+1) c) ub uc kr RV (TV++[x]) R (T++[l]):=by
 have o:Aj (fun k=>tlv.ownBlock=some k) wr w3:=Aj.Cw r3;have hX:∀b,tlv.ownBlock=some b->w0.heap.size<=b/\∃j,Ah wr b 230 j:=fun b i=>by
  rcases Bv h.GV with⟨t,_⟩|⟨b',c',t,I,_,_,_,a4,h3⟩
  ·rw[t]at i;cases i
  ·rw[t]at i
   have e:b'=b:=by simpa [Value.ownBlock] using i
   subst e;exact⟨AX h.CW.base I,a4,h3⟩
 have no:∀{b:Nat} {a6:TypeId} {j:Array Value},Ah wr b a6 j->a6≠230->¬tlv.ownBlock=some b:=fun i P e=>by obtain⟨_,j,I⟩:=hX _ e;exact Ah.A8 i I P rfl
 have p:=h.CW.BZ o fun b i=>by obtain⟨t,j,I⟩:=hX b i;exact⟨t,_,j,I,by decide,by decide,by decide,by decide,by decide,fun e=>by cases e⟩
 obtain⟨a4,a7⟩:=h.AJ.An;refine⟨⟨p.below,p.size,p.base,p.fst,p.G4,fun a0 y U=>?_⟩,o.own h.Hf (E0 h.Hf fun b j i=>no i (by decide)),h.AJ.Aw o (no a7 (by decide)) (fun k x hx=>E0 (h.AJ.own k x hx) fun b j i=>no i (by decide)),h.lists,by simpa using r1,h.ne⟩;by_cases hi:a0<TV.length
 ·rw[gL hi]at U
  rw[dG,gL (by omega),<-dG];exact p.JC a0 y U
 ·have hl:=(sG.1 U).1
  simp at hl;obtain rfl:a0=TV.length:=by omega
  simp at U;subst U;rw[dG,<-hT];simp only[List.getElem?_concat_length,Option.getD_some];have a5:∀b,Kb w.heap.size wr.heap.size wr b->¬tlv.ownBlock=some b:=fun b i=>by
   obtain⟨_,_,t',a3,J,P⟩:=i;rcases P with rfl|rfl|rfl
   ·exact no J (by decide)
   ·exact no J (by decide)
   ·exact no J (by decide)
  have hs:=o.size;refine(hx.Aw o a5).mono fun b i=>?_
  obtain⟨a1,a2,t',a3,J,P⟩:=id i;exact⟨a1,by omega,t',a3,o.An J (a5 b i),P⟩
def G5(w0 w wr:World)(b:Nat):Prop:=(b<w0.heap.size\/w.heap.size<=b)/\b<wr.heap.size
theorem Cp.done(h:Cp w0 w wr F g E C rv tlv ub uc g.R.length RV TV R T)(h1:RV.length=g.R.length+1)(h2:TV.length=g.R.length+1)(hn:g.R.length<=300)(ht:g.top<=1000) :
  Dl (G5 w0 w wr) wr rv (g.R.length+1) g.right/\FH (G5 w0 w wr) wr (g.nt+1) tlv (g.R.length+1) T/\Dl (G5 w0 w wr) wr (.slice (some ⟨ub,0,none⟩) (g.top+1) uc) (g.top+1) g.Cb:=by
 have o:∀b,w.heap.size<=b->b<wr.heap.size->G5 w0 w wr b:=fun b I J=>⟨.inr I,J⟩
 have r1:=h.Hf;have r2:=h.GV;rw[h1]at r1;rw[h2]at r2;have a1:=h.CW.below.size;refine⟨Bk.Ml r1 (by omega) o fun i x l=>(h.CW.G4 i x l).mono fun b j=>?_,Bk.Ml r2 (by omega) o fun i x l=>(h.CW.JC i x l).mono fun b j=>o b j.1 j.2.1,Bk.Ml h.AJ.row (by omega) o fun i x l=>?_⟩
 ·rcases j with j|⟨_,j,cs,a0⟩
  ·exact⟨.inl j,by omega⟩
  ·exact o b j a0.lt
 ·rw[pG]at l
  cases t:R[i]? with
  | none=>rw[t]at l;cases l
  | some y=>
   rw[t]at l;cases l
   have ho:=h.AJ.own i y t;have p:(R.map (·.2))[i]?=some y.2:=by rw[pG,t];rfl
   rw[h.lists,pG]at p;have P:y.2=g.Cb i:=by
    cases U:(List.range (g.top+1))[i]? with
    | none=>rw[U]at p;cases p
    | some a3=>rw[U]at p;obtain⟨P,h5⟩:=sG.1 U;rw[List.getElem_range]at h5;subst h5;rw[<-WE];simpa using p.symm
   have a2:y.2.length<=300:=by rw[P];exact AX (KC g i) hn
   show B0 _ wr y.1 (g.Cb i);rw[<-P];refine⟨G3 ho (by omega),fun b j _=>?_⟩;obtain⟨I,J⟩:=B9 ho b j;exact o b J I
end
theorem Na:El Tryz.prog 190 240 4 32:=El.of (z:=.agg #[.int .i64 0,.int .i64 0,.pointer none,.bool false]) Tryz.underlying190 (by kernel_rfl) rfl (by decide)
theorem fA:El Tryz.prog 246 248 2 16:=El.of (z:=.agg #[.int .i64 0,.int .i64 0]) Tryz.underlying246 (by kernel_rfl) rfl (by decide)
structure ER(w:World)(B1 B g n c:Nat)(R:List (Value×List It)):Prop where
 row:w.ownsRow B1 246 1 (.slice (some ⟨g,0,none⟩) n c) n (R.map (·.1))
 own:∀(k:Nat) (x:Value×List It),R[k]?=some x->w.ownsRow B 248 2 x.1 x.2.length (x.2.flatMap AZ)
 apart:∀(i j:Nat) (x y:Value×List It),R[i]?=some x->R[j]?=some y->i≠j->∀k,x.1.ownBlock=some k->y.1.ownBlock≠some k
theorem ER.len{w:World}{i B g n c:Nat}{R:List (Value×List It)}(h:ER w i B g n c R):R.length=n:=by have:=h.row.1;simpa using this
theorem ER.later{w w':World}{i B g n c:Nat}{R:List (Value×List It)}(h:ER w i B g n c R)(j:Below w.heap.size w w'):ER w' i B g n c R:=
 ⟨AS h.row j,fun k x l=>AS (h.own k x l) j,h.apart⟩
theorem ER.Aw{X:Nat->Prop}{w w':World}{i B g n c:Nat}{R:List (Value×List It)}(h:ER w i B g n c R)(j:Aj X w w')(p:¬X g)(o:∀(k:Nat) (x:Value×List It),R[k]?=some x->∀b,x.1.ownBlock=some b->¬X b):ER w' i B g n c R:=
 ⟨j.own h.row (fun k t=>by cases t;exact p),fun k x l=>j.own (h.own k x l) (o k x l),h.apart⟩
theorem ER.An{w:World}{l B g n c:Nat}{R:List (Value×List It)}(h:ER w l B g n c R):∃i,Ah w g 246 i:=by
 rcases h.row.2 with⟨j,_⟩|⟨p,cap,i,j,t,o,_⟩
 ·cases j
 ·cases j;exact⟨i,o⟩
theorem ER.put{w W w3:World}{B1 B g n c:Nat}{R:List (Value×List It)}(h:ER w B1 B g n c R)(hW:Below w.heap.size w W){s:Nat}{x:Value×List It}(hx:R[s]?=some x){nv:Value}{l:List It}
  (r1:w3.ownsRow B 248 2 nv l.length (l.flatMap AZ)) (r2:AI B [248] W w3) (r3:W.grownBy w3 x.1.ownBlock/\(nv.ownBlock=x.1.ownBlock\/nv.ownBlock=some W.heap.size)):ER (w3.setCell ⟨g,s,none⟩ nv) B1 B g n c (R.set s (nv,l)):=by
 have p:=h.later hW;obtain⟨U,a9⟩:=sG.1 hx;have a8:=h.len;obtain⟨a7,a4⟩:=p.An;have a2:=r2.An a4 (.inr (by decide));have hc:Aj (·=g) w3 (w3.setCell ⟨g,s,none⟩ nv):=Aj.set (X:=(·=g)) (Aj.refl _ w3) (p:=⟨g,s,none⟩) (.inr rfl) _;have a5:=r2.own p.row (.inr (by decide));refine⟨?_,?_,?_⟩
 ·have:=GD a5 s (by omega) nv
  rw[List.map_set];exact this
 ·intro k y j
  by_cases T:k=s
  ·subst T
   rw[tG U]at j;cases j
   exact hc.own r1 (Fj r1 a2 (by decide))
  ·rw[uG (fun e=>T e.symm)]at j
   have a6:=p.own k y j;have a3:w3.ownsRow B 248 2 y.1 y.2.length (y.2.flatMap AZ):=(Aj.Cw r3.1).own a6 (fun b i he=>h.apart s k x y hx j (fun e=>T e.symm) b he i);exact hc.own a3 (Fj a3 a2 (by decide))
 ·intro a0 a1 a b ha i J k t C
  have key:∀(m:Nat) (y:Value×List It),R[m]?=some y->m≠s->∀k,nv.ownBlock=some k->y.1.ownBlock≠some k:=fun m y j hm k o h2=>by
   rcases r3.2 with e|e
   ·rw[e]at o
    exact h.apart s m x y hx j (fun e=>hm e.symm) k o h2
   ·rw[e]at o
    cases o
    have:=(B9 (p.own m y j) _ h2).1;omega
  by_cases I:a0=s
  ·subst I
   rw[tG U]at ha;cases ha
   rw[uG J]at i;exact key a1 b i (fun e=>J e.symm) k t C
  ·rw[uG (fun e=>I e.symm)]at ha
   by_cases hj:a1=s
   ·subst hj
    rw[tG U]at i;cases i
    exact key a0 a ha I k C t
   ·rw[uG (fun e=>hj e.symm)]at i
    exact h.apart a0 a1 a b ha i J k t C
theorem AI.Aw{B:Nat}{T:List TypeId}{w w':World}(h:AI B T w w'):Aj (fun b=>B<=b) w w':=⟨h.os,h.tape,h.output,h.size,fun k i j=>h.block k i (.inl (by omega))⟩
def XL(mb fb z:Nat)(b:Nat):Prop:=b=mb\/b=fb\/z<=b
def Sx(mb fb z:Nat)(b:Nat):Prop:=b<z/\b≠mb/\b≠fb
theorem Sx.no{mb fb z b:Nat}(h:Sx mb fb z b):¬XL mb fb z b:=by
 obtain⟨l,i,j⟩:=h;rintro(e|e|e)
 ·exact i e
 ·exact j e
 ·omega
def hV(h:Option AA):Value:=match h with|none=>.pointer none|some s=>s.v
def Dx(z:Option AA×Edge):List Value:=[.int .i64 (z.2.dst:Nat),.int .i64 (z.2.at_:Nat),hV z.1,.bool z.2.self]
def Ck(w:World)(m:Nat)(P:List AA)(h:Option AA)(S:Nat):Prop:=match h with|none=>S=0|some s=>AK w s S/\s.n=m/\∀p∈P,s.wb≠p.wb
theorem Ck.later{w w':World}{m:Nat}{P:List AA}{h:Option AA}{S:Nat}(k:Ck w m P h S)(i:Below w.heap.size w w'):Ck w' m P h S:=by
 cases h with
 | none=>exact k
 | some s=>exact⟨k.1.later i,k.2⟩
theorem Ck.keeps{w w':World}{m:Nat}{P:List AA}{h:Option AA}{S B:Nat}{T:List TypeId}(k:Ck w m P h S)(l:AI B T w w')(i:161 ∉ T)(j:156 ∉ T):Ck w' m P h S:=by
 cases h with
 | none=>exact k
 | some s=>exact⟨k.1.keeps l i j,k.2⟩
theorem Ck.push{w w':World}{m:Nat}{P:List AA}{h:Option AA}{S:Nat}(k:Ck w m P h S)(j:Below w.heap.size w w'){t:AA}(o:w.heap.size<=t.wb):Ck w' m (P++[t]) h S:=by
 cases h with
 | none=>exact k
 | some s=>
  refine⟨k.1.later j,k.2.1,fun p l=>?_⟩;rcases mA.1 l with i|i
  ·exact k.2.2 p i
  ·rw[mS.1 i]
   have:=k.1.words.lt;omega
structure Mk(w1 w3 wr:World)(mb fb n c:Nat)(v lv rv tlv uv cv bv av ev:Value)(g:Gz)(base:List Nat)(P:List AA)(S:List Nat)(ED:List (Option AA×Edge))(FR:List (Value×List It)):Prop where
 below:Below w1.heap.size w1 wr
 vf:∃x0 x1 x2 x3,v=.agg #[x0,x1,x2,x3]
 lo:w1.heap.size<=mb/\w1.heap.size<=fb/\w1.heap.size<=w3.heap.size
 Aw:Aj (XL mb fb w3.heap.size) w3 wr
 An:Ah wr mb 192 (EA v lv rv tlv uv cv bv av ev (.slice (some ⟨fb,0,none⟩) n c))
 FP:wr.ownsRow w3.heap.size 3 1 bv base.length (base.map AU)
 all:wr.ownsRow w3.heap.size 90 1 av P.length (P.map AA.v)
 AJ:Bu wr (g.nt+1) P S
 new:∀p∈P,w3.heap.size<=p.h/\w3.heap.size<=p.wb
 Eu:wr.ownsRow w3.heap.size 240 4 ev ED.length (ED.flatMap Dx)
 JI:∀z∈ED,Ck wr (g.nt+1) P z.1 z.2.set
 fin:ER wr w1.heap.size w3.heap.size fb n c FR
section
variable {w1 w3 wr w2 W W2:World} {mb fb n c:Nat} {v lv rv tlv uv cv bv av ev:Value} {g:Gz} {base:List Nat} {P:List AA} {S:List Nat} {ED:List (Option AA×Edge)} {FR:List (Value×List It)}
theorem Mk.later(h:Mk w1 w3 wr mb fb n c v lv rv tlv uv cv bv av ev g base P S ED FR)(i:Below wr.heap.size wr w2):Mk w1 w3 w2 mb fb n c v lv rv tlv uv cv bv av ev g base P S ED FR:=
 ⟨h.below.trans (i.mono h.below.size),h.vf,h.lo,h.Aw.next (Aj.AH i),h.An.below i h.An.lt,AS h.FP i,AS h.all i,h.AJ.later i,h.new,AS h.Eu i,fun z j=>(h.JI z j).later i,h.fin.later i⟩
theorem ER.keeps{l i B g n c:Nat}{T:List TypeId}{R:List (Value×List It)}(h:ER wr i B g n c R)(j:AI l T wr w2)(o:248 ∉ T)(p:246 ∉ T):ER w2 i B g n c R:=
 ⟨j.own h.row (.inr p),fun k x t=>j.own (h.own k x t) (.inr o),h.apart⟩
theorem Mk.eF(h:Mk w1 w3 wr mb fb n c v lv rv tlv uv cv bv av ev g base P S ED FR)(j:Below wr.heap.size wr W){t:AA}(hs:AK W t 0)(hn:t.n=g.nt+1)(U:wr.heap.size<=t.h/\wr.heap.size<=t.wb){A:Option Addr}{c2:Nat}
  (r1:W2.ownsRow w3.heap.size 90 1 (.slice A (P.length+1) c2) (P.length+1) (P.map AA.v++[t.v])) (i:AI w3.heap.size [90] W W2) :
  Mk w1 w3 (W2.setCell ⟨mb,10,none⟩ (.slice A (P.length+1) c2)) mb fb n c v lv rv tlv uv cv bv (.slice A (P.length+1) c2) ev g base (P++[t]) (S++[0]) ED FR/\AI w1.heap.size [192,90] wr (W2.setCell ⟨mb,10,none⟩ (.slice A (P.length+1) c2)) /\
  (∀(q:Option AA) (T:Nat),Ck wr (g.nt+1) P q T->Ck (W2.setCell ⟨mb,10,none⟩ (.slice A (P.length+1) c2)) (g.nt+1) (P++[t]) q T):=by
 have p:=h.lo;have hz:=h.Aw.size;have l:=h.later j;have J:Ah W2 mb 192 _:=i.An l.An (.inr (by decide));have o:AI w1.heap.size [192] W2 (W2.setCell ⟨mb,10,none⟩ (.slice A (P.length+1) c2)):=(AI.refl _ _ W2).Kv J p.1 (by simp) 10 _;have hc:Aj (·=mb) W2 (W2.setCell ⟨mb,10,none⟩ (.slice A (P.length+1) c2)):=Aj.set (X:=(·=mb)) (Aj.refl _ W2) (p:=⟨mb,10,none⟩) (.inr rfl) _;have R:∀(q:Option AA) (T:Nat),Ck wr (g.nt+1) P q T->Ck (W2.setCell ⟨mb,10,none⟩ (.slice A (P.length+1) c2)) (g.nt+1) (P++[t]) q T:=fun q T hq=>((hq.push j U.2).keeps i (by decide) (by decide)).keeps o (by decide) (by decide)
 have a0:w1.heap.size<=W.heap.size:=l.below.size;refine⟨⟨(l.below.trans ((i.mono p.2.2 (T':=[90]) (fun _ h=>h)).below a0)).setCell (p:=⟨mb,10,none⟩) p.1 _,h.vf,p,(l.Aw.next ((i.Aw).mono fun b j=>.inr (.inr j))).next (hc.mono fun b j=>.inl j),?_,o.own (i.own l.FP (.inr (by decide))) (.inr (by decide)),?_,?_,?_,o.own (i.own l.Eu (.inr (by decide))) (.inr (by decide)),fun z hz=>R _ _ (h.JI z hz),(l.fin.keeps i (by decide) (by decide)).keeps o (by decide) (by decide)⟩,?_,R⟩
 ·obtain⟨x0,x1,x2,x3,rfl⟩:=h.vf
  exact J.Bn 10 _
 ·rw[By,B5]
  exact o.own (by simpa using r1) (.inr (by decide))
 ·exact((h.AJ.push j hs hn U.2).keeps i (by decide) (by decide)).keeps o (by decide) (by decide)
 ·intro a1 hp
  rcases mA.1 hp with I|I
  ·exact h.new a1 I
  ·rw[mS.1 I]
   omega
 ·exact((AI.AH j).trans (i.mono p.2.2 (fun t C=>by simp at C ⊢;exact .inr C))).trans (o.mono (AG _) (fun t C=>by simp at C ⊢;exact .inl C))
theorem Mk.Uy(h:Mk w1 w3 wr mb fb n c v lv rv tlv uv cv bv av ev g base P S ED FR)(o:Below wr.heap.size wr W){x:Nat}{A:Option Addr}{c2:Nat}(U:W2.ownsRow w3.heap.size 3 1 (.slice A (base.length+1) c2) (base.length+1) (base.map AU++[.int .i64 (x:Nat)]))(j:AI w3.heap.size [3] W W2) :
  Mk w1 w3 (W2.setCell ⟨mb,9,none⟩ (.slice A (base.length+1) c2)) mb fb n c v lv rv tlv uv cv (.slice A (base.length+1) c2) av ev g (base++[x]) P S ED FR/\AI w1.heap.size [192,3] wr (W2.setCell ⟨mb,9,none⟩ (.slice A (base.length+1) c2)):=by
 have p:=h.lo;have i:=h.later o;have I:Ah W2 mb 192 _:=j.An i.An (.inr (by decide));have l:AI w1.heap.size [192] W2 (W2.setCell ⟨mb,9,none⟩ (.slice A (base.length+1) c2)):=(AI.refl _ _ W2).Kv I p.1 (by simp) 9 _;have J:Aj (·=mb) W2 (W2.setCell ⟨mb,9,none⟩ (.slice A (base.length+1) c2)):=Aj.set (X:=(·=mb)) (Aj.refl _ W2) (p:=⟨mb,9,none⟩) (.inr rfl) _;have R:w1.heap.size<=W.heap.size:=i.below.size;refine⟨⟨(i.below.trans ((j.mono p.2.2 (T':=[3]) (fun _ h=>h)).below R)).setCell (p:=⟨mb,9,none⟩) p.1 _,h.vf,p,(i.Aw.next ((j.Aw).mono fun b o=>.inr (.inr o))).next (J.mono fun b o=>.inl o),?_,?_,l.own (j.own i.all (.inr (by decide))) (.inr (by decide)),(i.AJ.keeps j (by decide) (by decide)).keeps l (by decide) (by decide),h.new,l.own (j.own i.Eu (.inr (by decide))) (.inr (by decide)),fun z T=>((i.JI z T).keeps j (by decide) (by decide)).keeps l (by decide) (by decide),(i.fin.keeps j (by decide) (by decide)).keeps l (by decide) (by decide)⟩,?_⟩
 ·obtain⟨x0,x1,x2,x3,rfl⟩:=h.vf
  exact I.Bn 9 _
 ·rw[By,B5]
  exact l.own U (.inr (by decide))
 ·exact((AI.AH o).trans (j.mono p.2.2 (fun t C=>by simp at C ⊢;exact .inr C))).trans (l.mono (AG _) (fun t C=>by simp at C ⊢;exact .inl C))
theorem Mk.KR(h:Mk w1 w3 wr mb fb n c v lv rv tlv uv cv bv av ev g base P S ED FR)(o:Below wr.heap.size wr W){x:Option AA×Edge}(T:Ck wr (g.nt+1) P x.1 x.2.set){A:Option Addr}{c2:Nat}(r1:W2.ownsRow w3.heap.size 240 4 (.slice A (ED.length+1) c2) (ED.length+1) (ED.flatMap Dx++Dx x))(i:AI w3.heap.size [240] W W2) :
  Mk w1 w3 (W2.setCell ⟨mb,11,none⟩ (.slice A (ED.length+1) c2)) mb fb n c v lv rv tlv uv cv bv av (.slice A (ED.length+1) c2) g base P S (ED++[x]) FR/\AI w1.heap.size [192,240] wr (W2.setCell ⟨mb,11,none⟩ (.slice A (ED.length+1) c2)):=by
 have p:=h.lo;have j:=h.later o;have I:Ah W2 mb 192 _:=i.An j.An (.inr (by decide));have l:AI w1.heap.size [192] W2 (W2.setCell ⟨mb,11,none⟩ (.slice A (ED.length+1) c2)):=(AI.refl _ _ W2).Kv I p.1 (by simp) 11 _;have J:Aj (·=mb) W2 (W2.setCell ⟨mb,11,none⟩ (.slice A (ED.length+1) c2)):=Aj.set (X:=(·=mb)) (Aj.refl _ W2) (p:=⟨mb,11,none⟩) (.inr rfl) _;have R:w1.heap.size<=W.heap.size:=j.below.size;refine⟨⟨(j.below.trans ((i.mono p.2.2 (T':=[240]) (fun _ h=>h)).below R)).setCell (p:=⟨mb,11,none⟩) p.1 _,h.vf,p,(j.Aw.next ((i.Aw).mono fun b o=>.inr (.inr o))).next (J.mono fun b o=>.inl o),?_,l.own (i.own j.FP (.inr (by decide))) (.inr (by decide)),l.own (i.own j.all (.inr (by decide))) (.inr (by decide)),(j.AJ.keeps i (by decide) (by decide)).keeps l (by decide) (by decide),h.new,?_,?_,(j.fin.keeps i (by decide) (by decide)).keeps l (by decide) (by decide)⟩,?_⟩
 ·obtain⟨x0,x1,x2,x3,rfl⟩:=h.vf
  exact I.Bn 11 _
 ·rw[List.flatMap_append,B5]
  exact l.own (by simpa using r1) (.inr (by decide))
 ·intro z U
  rcases mA.1 U with C|C
  ·exact((j.JI z C).keeps i (by decide) (by decide)).keeps l (by decide) (by decide)
  ·rw[mS.1 C]
   exact((T.later o).keeps i (by decide) (by decide)).keeps l (by decide) (by decide)
 ·exact((AI.AH o).trans (i.mono p.2.2 (fun a0 t=>by simp at t ⊢;exact .inr t))).trans (l.mono (AG _) (fun a0 t=>by simp at t ⊢;exact .inl t))
theorem Mk.ended(h:Mk w1 w3 wr mb fb n c v lv rv tlv uv cv bv av ev g base P S ED FR)(l:Below wr.heap.size wr W){s:Nat}{y:Value×List It}(T:FR[s]?=some y){x:It}{A:Option Addr}{c2:Nat}(r1:W2.ownsRow w3.heap.size 248 2 (.slice A (y.2.length+1) c2) (y.2.length+1) (y.2.flatMap AZ++AZ x))(i:AI w3.heap.size [248] W W2)(r3:W.grownBy W2 y.1.ownBlock/\((Value.slice A (y.2.length+1) c2).ownBlock=y.1.ownBlock\/(Value.slice A (y.2.length+1) c2).ownBlock=some W.heap.size)) :
  Mk w1 w3 (W2.setCell ⟨fb,s,none⟩ (.slice A (y.2.length+1) c2)) mb fb n c v lv rv tlv uv cv bv av ev g base P S ED (FR.set s (.slice A (y.2.length+1) c2,y.2++[x]))/\AI w1.heap.size [246,248] wr (W2.setCell ⟨fb,s,none⟩ (.slice A (y.2.length+1) c2)):=by
 have p:=h.lo;have j:=h.later l;obtain⟨a1,J⟩:=j.fin.An;have C:Ah W2 fb 246 _:=i.An J (.inr (by decide));have o:AI w1.heap.size [246] W2 (W2.setCell ⟨fb,s,none⟩ (.slice A (y.2.length+1) c2)):=(AI.refl _ _ W2).Kv C p.2.1 (by simp) s _;have I:Aj (·=fb) W2 (W2.setCell ⟨fb,s,none⟩ (.slice A (y.2.length+1) c2)):=Aj.set (X:=(·=fb)) (Aj.refl _ W2) (p:=⟨fb,s,none⟩) (.inr rfl) _;have R:w1.heap.size<=W.heap.size:=j.below.size;refine⟨⟨(j.below.trans ((i.mono p.2.2 (T':=[248]) (fun _ h=>h)).below R)).setCell (p:=⟨fb,s,none⟩) p.2.1 _,h.vf,p,(j.Aw.next ((i.Aw).mono fun b l=>.inr (.inr l))).next (I.mono fun b l=>.inr (.inl l)),o.An (i.An j.An (.inr (by decide))) (.inr (by decide)),o.own (i.own j.FP (.inr (by decide))) (.inr (by decide)),o.own (i.own j.all (.inr (by decide))) (.inr (by decide)),(j.AJ.keeps i (by decide) (by decide)).keeps o (by decide) (by decide),h.new,o.own (i.own j.Eu (.inr (by decide))) (.inr (by decide)),fun z U=>((j.JI z U).keeps i (by decide) (by decide)).keeps o (by decide) (by decide),?_⟩,?_⟩
 ·exact h.fin.put l T (nv:=.slice A (y.2.length+1) c2) (l:=y.2++[x]) (by rw[B5,List.flatMap_append];simpa using r1) i r3
 ·exact((AI.AH l).trans (i.mono p.2.2 (fun a0 t=>by simp at t ⊢;exact .inr t))).trans (o.mono (AG _) (fun a0 t=>by simp at t ⊢;exact .inl t))
theorem Mk.Li{J:List Nat}(h:Mk w1 w3 wr mb fb n c v lv rv tlv uv cv bv av ev g base P S ED FR)(l:Aj (XP P) wr w2)(hf:Bu w2 (g.nt+1) P J):Mk w1 w3 w2 mb fb n c v lv rv tlv uv cv bv av ev g base P J ED FR:=by
 have a0:=h.lo;have I:∀b,XP P b->w3.heap.size<=b/\∃j,Ah wr b 156 j:=fun b i=>by obtain⟨p,C,rfl⟩:=i;obtain⟨a1,T⟩:=h.AJ.mem C;exact⟨(h.new p C).2,_,T.words⟩
 have no:∀{b:Nat} {t:TypeId} {j:Array Value},Ah wr b t j->t≠156->¬XP P b:=fun i ht e=>by obtain⟨_,j,R⟩:=I _ e;exact Ah.A8 i R ht rfl
 obtain⟨a2,U⟩:=h.fin.An;refine⟨h.below.trans (l.below h.below.size fun k o e=>by have:=(I k e).1;omega),h.vf,a0,h.Aw.next (l.mono fun b i=>.inr (.inr (I b i).1)),l.An h.An (no h.An (by decide)),l.own h.FP (E0 h.FP fun b j i=>no i (by decide)),l.own h.all (E0 h.all fun b j i=>no i (by decide)),hf,h.new,l.own h.Eu (E0 h.Eu fun b j i=>no i (by decide)),fun z hz=>?_,h.fin.Aw l (no U (by decide)) (fun k x hx=>E0 (h.fin.own k x hx) fun b j i=>no i (by decide))⟩;have o:=h.JI z hz;unfold Ck at o ⊢;split
 ·rename_i q
  rw[q]at o;exact o
 ·rename_i s q
  rw[q]at o;obtain⟨a,b,d⟩:=o;refine⟨a.Aw l (no a.head (by decide)) ?_,b,d⟩;rintro⟨p,C,e⟩;exact d p C e
end
theorem QM{l:List It}{x:It}{j:Nat}(h:l.findIdx? (fun y=>x==y)=some j):l[j]?=some x/\∀i,i<j->l[i]?≠some x:=by
 obtain⟨p,t,C⟩:=List.findIdx?_eq_some_iff_getElem.1 h;refine⟨?_,fun i J e=>?_⟩
 ·rw[eG p]
  have o:x=l[j]:=by simpa using t
  rw[<-o]
 ·have o:=C i J
  obtain⟨P,I⟩:=sG.1 e;rw[I]at o;simp at o
theorem WB{w:World}{mb:Nat}{lv bv:Value}{V:List (Value×Value)}{L E:List (List It)}{base:List Nat}(c4:w.cell? ⟨mb,4,none⟩=some lv)(c9:w.cell? ⟨mb,9,none⟩=some bv)(hA:Fm w lv V L E)(hB:Bz w bv base)(b1:base.length=L.length){i:Nat}{x:It}{r:Nat}(hr:Gz.FM L base i x=some r)(b4:r<=1000000) :
  Calls Tryz.prog 200 #[.pointer (some ⟨mb,0,none⟩),.int .i64 i,CJ x] w fun e w'=>e=.returned (.int .i64 r)/\Below w.heap.size w w':=by
 obtain⟨⟨AL,cL,rfl,av,hc⟩,⟨az,b0⟩,h2,h3,h4⟩:=hA;unfold Gz.FM at hr;obtain⟨a1,p,a0⟩:=Option.map_eq_some_iff.1 hr;have hi:i<L.length:=by
  rcases Nat.lt_or_ge i L.length with h|h
  ·exact h
  ·rw[dG,nG h]at p
   simp at p
 obtain⟨a2,hl⟩:∃a2,L[i]?=some a2:=⟨_,eG hi⟩
 obtain⟨xv,a6⟩:∃x,V[i]?=some x:=⟨_,eG (by omega)⟩
 obtain⟨bi,a4⟩:∃x,base[i]?=some x:=⟨_,eG (by omega)⟩
 rw[dG,hl]at p;rw[dG,a4]at a0;simp only[Option.getD_some]at p a0;obtain⟨a5,ad⟩:=QM p;have ay:=(sG.1 a5).1;obtain⟨b,off,rfl,hb,c0,c1⟩:=hc i xv a6;obtain⟨⟨Ai,ci,af,aa⟩,au,ar⟩:=h2 i xv a2 a6 hl;rw[af]at c0;obtain⟨⟨AB,cB,ao,a8⟩,_,_⟩:=hB;obtain⟨U,ob,al,an,a9⟩:=a8 i bi a4;subst ao;subst al;have aq:=World.block_lt_of_cell? w _ c4;have aj:=Hd a5;have ak:=Hd ad;have HC:=Hd aa;have HR:=Hd a0;have HK:Hid (∀y,Below w.heap.size w y->y.cell? ⟨mb,9,none⟩=some (.slice (some ⟨U,ob,none⟩) base.length cB)/\y.cell? ⟨U,ob+i,none⟩=some (.int .i64 (bi:Nat))):=Hd (fun y o=>⟨(o.cell (p:=⟨mb,9,none⟩) aq).trans c9,(o.cell (p:=⟨U,ob+i,none⟩) an).trans a9⟩)
 have aw:(i:Int)<(V.length:Int):=by omega
 have ax:(i:Int)<(base.length:Int):=by omega
 have b3:a1<1000001:=by omega
 obtain⟨j,l⟩:=x;have T:=Hd (Ah.new w 194 #[.int .i64 j,.int .i64 l]);have ai:=Hd (Ay w (.cells #[.int .i64 j,.int .i64 l] 194));unfold CJ;clear hc h2 h3 hr p a5 ad aa ar a0 hl a6 a4 a8 af au a9 c9 c1;generalize V.length=n at *;generalize base.length=nb at *;go_enter Tryz.func200,Tryz.ntmps200
 go_wp2_with fail
 generalize hW:w.alloc (.cells #[.int .i64 j,.int .i64 l] 194)=W at *;generalize ag:w.heap.size=q at *;have HQ:=Hd (And.intro hW ag);clear hW ag;go_loopw [18] (fun ii wr=>∃k:Nat,k<=a1/\ii=.int .i64 k/\Hid (Below W.heap.size W wr)) (fun ii _=>a1+1-(intOf ii).toNat)
 case atStart=>exact⟨0,AP _,rfl,Hd (Below.refl _ _)⟩
 case round=>
  obtain⟨k,hk,rfl,I⟩:=hrel;obtain⟨⟨t,C⟩,o⟩:∃y,a2[k]?=some y:=⟨_,eG (by omega)⟩
  obtain⟨b2,ah,rfl,a7,d0,d1⟩:=HC.out k _ o;have J:Hid (Below q w wr):=Hd (ai.out.trans (I.out.mono (Nat.le_of_lt T.out.lt)));obtain⟨k9,kb⟩:=HK.out wr J.out;have a3:=Hd (T.out.below I.out T.out.lt);have x0:wr.cell? ⟨q,0,none⟩=some (.int .i64 j):=Ah.cell a3.out 0;have x1:wr.cell? ⟨q,1,none⟩=some (.int .i64 l):=Ah.cell a3.out 1;have xl:=Ah.lt a3.out;have ml:mb<wr.heap.size:=World.block_lt_of_cell? wr _ k9;have bl:U<wr.heap.size:=World.block_lt_of_cell? wr _ kb;have heq:=fun z=>Pa (j,l) (t,C) z
  have ab:=fun z op a b=>Nb op a b (j,l) (t,C) z
  unfold CJ at heq ab;simp only at d0 d1 heq ab;have d0:=(J.out.cell (p:=⟨b2,ah+k*2,none⟩) a7).trans d0;have d1:=(J.out.cell (p:=⟨b2,ah+k*2+1,none⟩) a7).trans d1;by_cases ae:k=a1
  ·have R:((j,l):It)=(t,C):=by rw[ae,aj.out]at o;exact Option.some.inj o
   have P:decide (((j,l):It)=(t,C))=true:=decide_eq_true R;rw[P]at heq;have b5:IntKind.i64.wrap ((bi:Int)+(k:Int))=(r:Int):=by have:=HR.out;rw[IntKind.wrap_i64];omega
   clear o P R ae;go_wp2_with fail
   go_ret;exact⟨rfl,by rw[HQ.out.2];exact J.out.trans ((Ay _ _).mono (by have:=J.out.size;have:=T.out.lt;have:=I.out.size;omega))⟩
  ·have R:¬((j,l):It)=(t,C):=fun e=>ak.out k (by omega) (by rw[e];exact o)
   have P:decide (((j,l):It)=(t,C))=false:=decide_eq_false R;rw[P]at heq;clear o P R;go_wp2_with fail
   go_roundw
   case rel=>exact⟨k+1,by omega,by go_num,Hd (I.out.trans ((Ay _ _).mono I.out.size))⟩
   case measure=>simp[intOf];omega
theorem YI{t:List It}{s:Nat}{p:It}(h:t.find? (fun x=>x.1==s)=some p):FY t s=(p.2:Int):=by unfold FY;rw[h]
theorem Zj{L:List (List It)}{base:List Nat}{i:Nat}{x:It}{r:Nat}(h:Gz.FM L base i x=some r):i<L.length:=by
 unfold Gz.FM at h;obtain⟨j,l,_⟩:=Option.map_eq_some_iff.1 h;rcases Nat.lt_or_ge i L.length with h|h
 ·exact h
 ·rw[dG,nG h]at l
  simp at l
theorem Ra{w:World}{mb:Nat}{A:Nat->Prop}{R bv rv:Value}{V:List (Value×Value)}{L E:List (List It)}{base:List Nat}{g:Gz}(c4:w.cell? ⟨mb,4,none⟩=some R)(c5:w.cell? ⟨mb,5,none⟩=some rv)(c9:w.cell? ⟨mb,9,none⟩=some bv)(C:Fm w R V L E)(hR:Dl A w rv (g.R.length+1) g.right)(hB:Bz w bv base)(a8:base.length=L.length){i:Nat}{x:It}{r:Nat}
  (ai:x.1<=g.R.length) (ab:x.2<(g.right x.1).length) (av:x.2<=1000000) (hi:i<L.length) (t:Gz.Hb g L E base i x=some r) (ah:r<=1000000) :
  Calls Tryz.prog 154 #[.pointer (some ⟨mb,0,none⟩),.int .i64 i,CJ x] w fun e w'=>e=.returned (.int .i64 r)/\Below w.heap.size w w':=by
 unfold Gz.Hb at t;cases P:(E.getD i []).find? (fun aj=>aj.1==g.next x) with
 | none=>rw[P]at t;cases t
 | some ad=>
  rw[P]at t;simp only at t;have a7:=YI P;have a3:Hid (∀y,Below w.heap.size w y->Calls Tryz.prog 28 #[R,.int .i64 i,.int .i64 (g.next x)] y fun e w'=>e=.returned (.int .i64 ad.2)/\Below y.heap.size y w'):=Hd (fun y j=>by have h:=PY (C.later j) (i:=i) (s:=g.next x) (by rw[<-C.len.1];exact hi);rw[a7]at h;exact h)
  have a1:=World.block_lt_of_cell? w _ c4;have U:Hid (∀y,Below w.heap.size w y->Calls Tryz.prog 200 #[.pointer (some ⟨mb,0,none⟩),.int .i64 ad.2,CJ (x.1,x.2+1)] y fun e w'=>e=.returned (.int .i64 r)/\Below y.heap.size y w'):=Hd (fun y j=>WB ((j.cell (p:=⟨mb,4,none⟩) a1).trans c4) ((j.cell (p:=⟨mb,9,none⟩) a1).trans c9) (C.later j) (hB.later j) a8 t ah);obtain⟨bR,oR,cR,Ad,c2,rfl,al,ae,a9⟩:=hR.at_ (k:=x.1) (by omega);obtain⟨s,hs⟩:∃s,(g.right x.1)[x.2]?=some s:=⟨_,eG ab⟩
  have aa:g.next x=s:=by unfold Gz.next;rw[dG,hs];rfl
  rw[aa]at a3;obtain⟨bS,oS,rfl,_,an,af⟩:=a9.at_ hs;have ao:(x.1:Int)<((g.R.length+1:Nat):Int):=by omega
  have aq:(x.1:Int)<(g.R.length:Int)+1:=by omega
  have ar:(x.2:Int)<((g.right x.1).length:Int):=by omega
  have au:IntKind.i64.wrap ((x.2:Int)+1)=(x.2:Int)+1:=by rw[IntKind.wrap_i64];omega
  obtain⟨l,p⟩:=x;simp only at *;generalize (g.right l).length=rl at *;generalize g.R.length=nR at *;have J:=Hd (Ah.new w 194 #[.int .i64 l,.int .i64 p]);have ak:=Hd (Ay w (.cells #[.int .i64 l,.int .i64 p] 194));obtain⟨AL,cL,ag⟩:∃A c,R=.slice A V.length c:=by obtain⟨⟨A,c,h,_⟩,_⟩:=C;exact⟨A,c,h⟩
  subst ag;unfold CJ at U ⊢;simp only at U;clear P t a7 aa hs C hR hB a9 a8 c9 ai ab hi;generalize V.length=n at *;go_enter Tryz.func154,Tryz.ntmps154
  go_upto_region 1 with fail
  have x0:=Ah.cell J.out 0;have x1:=Ah.cell J.out 1;have xl:=Ah.lt J.out;simp at x0 x1 xl;go_quiet (fail)
  go_upto_region 2 with fail
  have o:Hid (Below w.heap.size w ((w.alloc (.cells #[.int .i64 l,.int .i64 p] 194)).drewN nq)):=Hd ⟨rfl,rfl,rfl,by simp[World.drewN],fun k hk=>Below.heap_alloc _ _ _ hk⟩;have a4:Hid (Ah ((w.alloc (.cells #[.int .i64 l,.int .i64 p] 194)).drewN nq) w.heap.size 194 #[.int .i64 l,.int .i64 p]):=Hd (J.out.drewN nq);clear x0 x1 xl c5 ae af;generalize (w.alloc (.cells #[.int .i64 l,.int .i64 p] 194)).drewN nq=W at *;have a0:Hid (∀y,Below W.heap.size W y->y.cell? ⟨mb,4,none⟩=some (.slice AL n cL)/\y.cell? ⟨w.heap.size,0,none⟩=some (.int .i64 l)/\y.cell? ⟨w.heap.size,1,none⟩=some (.int .i64 p)):=Hd (fun y j=>by have hb:=a4.out.below j a4.out.lt;exact⟨((o.out.trans (j.mono o.out.size)).cell (p:=⟨mb,4,none⟩) a1).trans c4,hb.cell 0,hb.cell 1⟩)
  have T:Hid (Below W.heap.size W W.drew):=Hd ((Below.refl _ W).drew);clear c4
  go_region_held3 (fun v=>v.cell? ⟨mb,4,none⟩=some (.slice AL n cL)/\v.cell? ⟨w.heap.size,0,none⟩=some (.int .i64 l)/\v.cell? ⟨w.heap.size,1,none⟩=some (.int .i64 p))
   (first|exact a0.out _ T.out|exact a0.out _ I.out|exact a0.out _ a2.out)
   (first
    | (
     go_at_call 28;refine(a3.out W.drew (o.out.trans (T.out.mono o.out.size))).mono ?_;rintro e w3 ⟨rfl,a5⟩
     have I:=Hd (T.out.trans a5);clear a5)
    | (
     go_at_call 200;refine(U.out _ (o.out.trans (I.out.mono o.out.size))).mono ?_;rintro e w4 ⟨rfl,a6⟩
     have a2:=Hd (I.out.trans (a6.mono I.out.size));clear a6))
  go_wp2_with fail
  go_ret;exact⟨rfl,o.out.trans (a2.out.mono o.out.size)⟩
end Go.Proofs.YthaacmablcpdfaaGreatDoor
