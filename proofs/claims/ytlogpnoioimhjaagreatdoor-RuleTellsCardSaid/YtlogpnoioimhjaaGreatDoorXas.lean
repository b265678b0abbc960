/- What comes with a nonterminal. -/
import Derived.Test.YtlogpnoioimhjaaGreatDoorXar
import Derived.Test.YtlogpnoioimhjaaGreatDoorXao
set_option linter.all false
set_option maxRecDepth 100000
set_option maxHeartbeats 16000000
namespace Go.Proofs.YtlogpnoioimhjaaGreatDoor
open Go.RowKit Go.Proofs.Tryz
variable{c2 s:Nat}{z:AH×AU}{o r:List Nat}{e:TypeId}{p:List AU×List Nat}{l:List (Nat×Bool)}{t:AH}{A:Option Addr}{xs:Bool}{out:List AU}{W w':World}{A' X:Nat->Prop}{nv:Value}{f:Nat->Nat->Value->Prop}{cs:Array Value}{h:Option AH}{V:List (Value×Value)}{L:List (List It)}
section
open Go.Maps (IsMap Keyed)
def dU:El Tryz.prog 253 266 3 24:=El.of (z:=.agg #[.int .i64 0,.pointer none,.bool false]) underlying253 (by kernel_rfl) rfl (by decide)
abbrev Gw(w:World)(mb n:Nat)(D:DataW Unit):Prop:=w.ownsMap Tryz.prog 3 (plainElem Tryz.prog 3) mb n D
def D9(D:DataW Unit)(m:Nat->Option Nat):Prop:=∀s:Nat,(∀j,m s=some j->Maps.has D (Ck s)=true/\∀z,D.atKey (Ck s) z=.lit (.int .i64 (j:Int)))/\(m s=none->Maps.has D (Ck s)=false/\∀z,D.atKey (Ck s) z=z)
def D9.start:D9 (.map []) (fun _=>none):=fun s=>⟨(fun j h=>by cases h),fun _=>⟨rfl,fun _=>rfl⟩⟩
def D9.next{D:DataW Unit}{m:Nat->Option Nat}(h:D9 D m)(o:IsMap D)(s j:Nat):D9 (D.put (Ck s) (.lit (.int .i64 (j:Int)))) (fun a=>if a=s then some j else m a):=by
 intro a;by_cases l:a=s
 ·subst l
  refine⟨fun t i=>?_,fun i=>?_⟩
  ·simp only[if_true]at i
   cases i
   exact⟨Maps.has_put_same o (ND _) _,fun z=>Maps.atKey_put_same o (ND _) _ _⟩
  ·simp only[if_true]at i
   cases i
 ·have p:Ck a≠Ck s:=fun e=>l (Tr e)
  simp only[if_neg l,Maps.has_put_other p,Maps.atKey_put_other p];exact h a
def D9.congr{D:DataW Unit}{m i:Nat->Option Nat}(h:D9 D m)(j:∀s,m s=i s):D9 D i:=by have:m=i:=funext j;rw[<-this];exact h
def ML{w:World}{mb n:Nat}{D:DataW Unit}{m:Nat->Option Nat}(h:Gw w mb n D)(U:D9 D m)(hs:s<=100000) :
  (Instr.lookup 269 (.map (some mb)) (.int .i64 (s:Int)) true).run Tryz.prog w=.ok (.tuple #[.int .i64 (((m s).getD 0:Nat):Int),.bool (m s).isSome]) w:=by
 have T:keyOf Tryz.prog 3 (.int .i64 (s:Int))=some (Ck s):=Maps.keyOf_int_mk underlying3 (WalkArith.wf_i64 (by omega));have hz:=plainElem_int (H:=Unit) (a:=0) underlying3 (WalkArith.wf_i64 (by omega));obtain⟨v,ps,C,J⟩:=h.look_ok Me underlying269 (LV w) hz T;have I:(Instr.lookup 269 (.map (some mb)) (.int .i64 (s:Int)) true).run Tryz.prog w=.ok (.tuple #[v,.bool (Maps.has D (Ck s))]) w:=C;have P:plainElem Tryz.prog 3 v=some (D.atKey (Ck s) (.lit (.int .i64 0)),ps):=J;obtain⟨c,rfl,R,-⟩:=plainElem_int_inv underlying3 P;have i:D.atKey (Ck s) (.lit (.int .i64 0))=.lit (.int .i64 c):=congrArg Prod.fst R
 rw[I];obtain⟨p,t⟩:=U s;cases o:m s with
 | some a0=>obtain⟨j,l⟩:=p a0 o;rw[l]at i;simp only[DataW.lit.injEq,Lit.int.injEq,true_and]at i;rw[j,<-i];rfl
 | none=>obtain⟨j,l⟩:=t o;rw[l]at i;simp only[DataW.lit.injEq,Lit.int.injEq,true_and]at i;rw[j,<-i];rfl
def ME{w:World}{mb n:Nat}{D:DataW Unit}(h:Gw w mb n D)(j:n<=10000000){c:Nat}(l:s<=100000)(i:c<=100000) :
  ∃w',(Instr.mapUpdate 269 (.map (some mb)) (.int .i64 (s:Int)) (.int .i64 (c:Int))).run Tryz.prog w=.ok () w'/\Gw w' mb (n+1) (D.put (Ck s) (.lit (.int .i64 (c:Int))))/\w.grownBy w' (some mb):=
 h.update Me underlying269 (by unfold maxLen;omega) (Maps.keyOf_int_mk underlying3 (WalkArith.wf_i64 (by omega))) (plainElem_int underlying3 (WalkArith.wf_i64 (by omega)))
def Fw(z:AH×AU):List Value:=[.int .i64 (z.2.s:Nat),z.1.v,.bool z.2.self]
def EU(out:List AU)(s:Nat):Option Nat:=out.findIdx? (fun c=>c.s==s)
structure CA(w wr:World)(mm nD ob oc m:Nat)(tv:Value)(Z:List (AH×AU))(todo:List Nat)(D:DataW Unit):Prop where
 below:Below w w wr
 row:wr.ownsRow w 266 3 (.slice (ob,0) Z.length oc) Z.length (Z.flatMap Fw)
 AK:Bw wr m (Z.map (·.1)) (Z.map (·.2.set))
 new:∀z∈Z,w.heap.size<=z.1.h/\w.heap.size<=z.1.wb
 Jr:Cb wr w.heap.size 3 1 tv todo.length (todo.map AV)
 map:Gw wr mm nD D
 at_:D9 D (EU (Z.map (·.2)))
 lo:w.heap.size<=mm
 tb:∀i∈todo,i<Z.length
section
variable {w wr w2:World} {mm nD ob oc m:Nat} {tv:Value} {Z:List (AH×AU)} {todo:List Nat} {D:DataW Unit}
def CA.later(h:CA w wr mm nD ob oc m tv Z todo D)(i:Below wr wr w2):CA w w2 mm nD ob oc m tv Z todo D:=
 ⟨h.below.trans (i.mono h.below.size),AS h.row i,h.AK.later i,h.new,h.Jr.below i,(Aj.AJ (X:=fun _=>False) i).map h.map id,h.at_,h.lo,h.tb⟩
def CA.cells(h:CA w wr mm nD ob oc m tv Z todo D){j:Nat}(C:Z[j]?=some z):wr.cell? (ob,j*3)=some (.int .i64 (z.2.s:Nat))/\wr.cell? (ob,j*3+1)=some z.1.v/\wr.cell? (ob,j*3+2)=some (.bool z.2.self)/\wr.frozen? (ob,j*3+2)=false:=by obtain⟨i,t⟩:=sG.1 C;have l:=CJ Fw 3 (fun _=>rfl) Z j 0 i (by omega);have o:=CJ Fw 3 (fun _=>rfl) Z j 1 i (by omega);have p:=CJ Fw 3 (fun _=>rfl) Z j 2 i (by omega);rw[t,Nat.add_zero]at l;rw[t]at o p;exact⟨by rw[Bh h.row (j*3) (by omega),l];rfl,by rw[Bh h.row (j*3+1) (by omega),o];rfl,by rw[Bh h.row (j*3+2) (by omega),p];rfl,G2 h.row _⟩
def CA.Ap(h:CA w wr mm nD ob oc m tv Z todo D):∃i,Ah wr ob 266 i/\w.heap.size<=ob:=by
 rcases h.row.2 with⟨j,_⟩|⟨p,cap,i,j,l,o,_⟩
 ·cases j
 ·cases j;exact⟨i,o,l⟩
def CA.Ll(h:CA w wr mm nD ob oc m tv Z todo D){j:Nat}(i:Z[j]?=some z):AP wr z.1 z.2.set/\z.1.n=m:=by have l:=h.AK.at_ j z.1 (by rw[pG,i];rfl);rw[dG,pG,i]at l;exact⟨l,h.AK.room z.1 (List.mem_map.2 ⟨z,mG i,rfl⟩)⟩
def CA.apart(h:CA w wr mm nD ob oc m tv Z todo D){i j:Nat}{y:AH×AU}(o:Z[i]?=some y)(p:Z[j]?=some z)(l:i≠j):y.1.wb≠z.1.wb:=by
 intro e;refine l (S0 h.AK.apart (a:=y.1.wb) ?_ ?_)
 ·rw[pG,pG,o];rfl
 ·rw[pG,pG,p,e];rfl
theorem bA(out:List AU)(j:Nat)(c:AU)(s:Nat)(h:∀d,out[j]?=some d->d.s=c.s):EU (out.set j c) s=EU out s:=by
 unfold EU;induction out generalizing j with
 | nil=>rfl
 | cons a out l=>
  cases j with
  | zero=>have:=h a rfl;rw[List.set_cons_zero,List.findIdx?_cons,List.findIdx?_cons,this]
  | succ j=>rw[List.set_cons_succ,List.findIdx?_cons,List.findIdx?_cons,l j (fun d i=>h d (by simpa using i))]
def jN(out:List AU)(c:AU)(h:EU out c.s=none)(s:Nat):(if s=c.s then some out.length else EU out s)=EU (out++[c]) s:=by
 unfold EU at *;rw[List.findIdx?_append];by_cases i:s=c.s
 ·subst i
  rw[if_pos rfl,h];simp
 ·rw[if_neg i]
  have:(c.s==s)=false:=beq_false_of_ne (fun e=>i e.symm);cases out.findIdx? (fun x=>x.s==s)<;>simp[this]
theorem kL(r:List (AH×AU))(k:Nat)(z:AH×AU)(S:Nat)(i:r[k]?=some z):(r.flatMap Fw).set (k*3+2) (.bool true)=(r.set k (z.1,⟨z.2.s,S,true⟩)).flatMap Fw:=by
 induction r generalizing k with
 | nil=>simp at i
 | cons x r l=>
  cases k with
  | zero=>simp at i;subst i;rfl
  | succ k=>
   have j:(k+1)*3+2=k*3+2+3:=by omega
   have h:=l k (by simpa using i);rw[List.flatMap_cons,List.set_cons_succ,List.flatMap_cons,<-h,j];rfl
theorem aS(r:List (AH×AU))(k:Nat)(z:AH×AU)(S:Nat)(i:r[k]?=some z):(r.set k (z.1,⟨z.2.s,S,z.2.self⟩)).flatMap Fw=r.flatMap Fw:=by
 induction r generalizing k with
 | nil=>simp at i
 | cons x r j=>
  cases k with
  | zero=>simp at i;subst i;rfl
  | succ k=>have h:=j k (by simpa using i);rw[List.set_cons_succ,List.flatMap_cons,List.flatMap_cons,h]
def CA.handed(h:CA w wr mm nD ob oc m tv Z todo D){j:Nat}(o:Z[j]?=some z){r:AU×Bool}(C:r.1.s=z.2.s){e:Ending}(he:Ud wr ob (j*3) z.1 z.2.self r e w2):CA w w2 mm nD ob oc m tv (Z.set j (z.1,r.1)) todo D/\Aj (fun k=>k=ob\/k=z.1.wb) wr w2:=by
 obtain⟨-,p,i,hs,hw⟩:=he;obtain⟨a3,a6,ab⟩:=h.Ap;have a1:=h.Ll o;have ad:=h.new z (mG o);have hj:=(sG.1 o).1;have a7:ob≠z.1.wb:=Ah.Bf a6 a1.1.words (by decide);have P:=i.Ap a6 a7;have aa:=i.own h.row (fun k l e=>by cases l;exact a7 e);have R:(Z.map (·.1))[j]?=some z.1:=by rw[pG,o];rfl
 have U:Bw p m (Z.map (·.1)) ((Z.map (·.2.set)).set j r.1.set):=h.AK.EY R hs i;have a9:Cb p w.heap.size 3 1 tv todo.length (todo.map AV):=h.Jr.AE (X:=fun _=>True) (fun g a3 t _=>i.Ap t (fun e=>Ah.Bf t a1.1.words (by decide) e));have a0:=i.map h.map (fun e=>Dq h.map a1.1.words e.symm);have a5:Below w w p:=h.below.trans (i.below h.below.size (fun k l e=>by omega));have e1:(Z.set j (z.1,r.1)).map (·.1)=Z.map (·.1):=by rw[List.map_set];exact Rf R
 have e2:(Z.set j (z.1,r.1)).map (·.2.set)=(Z.map (·.2.set)).set j r.1.set:=by rw[List.map_set]
 have e3:(Z.set j (z.1,r.1)).map (·.2)=(Z.map (·.2)).set j r.1:=by rw[List.map_set]
 have a4:D9 D (EU ((Z.set j (z.1,r.1)).map (·.2))):=h.at_.congr fun s=>by
  rw[e3,bA];intro d hd;rw[pG,o]at hd;cases hd
  exact C.symm
 have a8:∀y∈Z.set j (z.1,r.1),w.heap.size<=y.1.h/\w.heap.size<=y.1.wb:=fun y hy=>by
  rcases List.mem_or_eq_of_mem_set hy with h1|rfl
  ·exact h.new y h1
  ·exact ad
 rcases hw with⟨rfl,I⟩|⟨rfl,I⟩
 ·refine⟨⟨a5,?_,by rw[e1,e2];exact U,a8,a9,a0,a4,h.lo,fun a2 hi=>by rw[List.length_set];exact h.tb a2 hi⟩,i.mono fun k l=>.inr l⟩
  have e4:=aS Z j z r.1.set o;have T:r.1=⟨z.2.s,r.1.set,z.2.self⟩:=by obtain⟨⟨a,b,c⟩,d⟩:=r;simp only at C I ⊢;rw[C,I]
  rw[T,List.length_set,e4];exact aa
 ·have J:Aj (·=ob) p (p.setCell (ob,j*3+2) (.bool true)):=Aj.set (X:=(·=ob)) (Aj.refl _ p) (p:=⟨ob,j*3+2,none⟩) (.inr rfl) _
  refine⟨⟨a5.setCell (p:=⟨ob,j*3+2,none⟩) ab _,?_,?_,a8,?_,J.map a0 (fun e=>Dq a0 P e.symm),a4,h.lo,fun a2 hi=>by rw[List.length_set];exact h.tb a2 hi⟩,(i.mono fun k l=>.inr l).next (J.mono fun k l=>.inl l)⟩
  ·have T:r.1=⟨z.2.s,r.1.set,true⟩:=by
    obtain⟨⟨a,b,c⟩,d⟩:=r;simp only at C I ⊢;rw[C,I]
   rw[T,List.length_set,<-kL Z j z r.1.set o];exact Gu aa (j*3+2) (by omega) _
  ·rw[e1,e2]
   refine U.AE J (fun ae R=>?_);obtain⟨S,hS⟩:=U.mem R;exact⟨Ah.Bf hS.head P (by decide),Ah.Bf hS.words P (by decide)⟩
  ·exact a9.AE (X:=fun _=>True) (fun g a3 t _=>J.Ap t (fun e=>Ah.Bf t P (by decide) e))
def CA.SJ(h:CA w wr mm nD ob oc m tv Z todo D){p:Value}{i:Nat}(t:i<Z.length)(I:Cb w2 w.heap.size 3 1 p (todo.length+1) (todo.map AV++[.int .i64 i]))(l:AI w [3] wr w2):CA w w2 mm nD ob oc m p Z (todo++[i]) D:=
 ⟨h.below.trans (l.below h.below.size),l.own h.row (.inr (by decide)),h.AK.keeps l (by decide) (by decide),h.new,by rw[By,B8];exact I,l.map h.map,h.at_,h.lo,fun j C=>by
  rcases mA.1 C with o|o
  ·exact h.tb j o
  ·rw[mS.1 o];exact t⟩
def CA.L3{i:Nat}(h:CA w wr mm nD ob oc m tv Z (i::todo) D){l:Value}(p:Cb wr w.heap.size 3 1 l todo.length (todo.map AV)):CA w wr mm nD ob oc m l Z todo D:=
 ⟨h.below,h.row,h.AK,h.new,p,h.map,h.at_,h.lo,fun j o=>h.tb j (List.mem_cons_of_mem _ o)⟩
def CA.more(h:CA w wr mm nD ob oc m tv Z todo D){y:Nat}(hy:EU (Z.map (·.2)) y=none){o I:World}(hm:Gw w2 mm (nD+1) (D.put (Ck y) (.lit (.int .i64 (Z.length:Nat)))))(hg:wr.grownBy w2 (some mm))(i:Below w2 w2 o)(a3:AP o t 0)(hn:t.n=m)(a1:w2.heap.size<=t.h/\w2.heap.size<=t.wb)
   {c:Nat} (T:I.ownsRow w 266 3 (.slice A (Z.length+1) c) (Z.length+1) (Z.flatMap Fw++Fw (t,⟨y,0,false⟩))) (l:AI w [266] o I):∃j,A=some ⟨j,0,none⟩/\CA w I mm (nD+1) j c m tv (Z++[(t,⟨y,0,false⟩)]) todo (D.put (Ck y) (.lit (.int .i64 (Z.length:Nat)))):=by
 obtain⟨j,c',U⟩:=M4 T (by omega);cases U
 have C:Aj (·=mm) wr w2:=Aj.of_map hg;have a0:Bw w2 m (Z.map (·.1)) (Z.map (·.2.set)):=h.AK.AE C (fun a6 hp=>by obtain⟨S,J⟩:=h.AK.mem hp;exact⟨Dq h.map J.head,Dq h.map J.words⟩)
 have P:Below w w w2:=h.below.trans (C.below h.below.size (fun k hk e=>by have:=h.lo;omega));have a2:=P.size;have R:Below w w o:=P.trans (i.mono a2);refine⟨j,rfl,⟨R.trans (l.below R.size),by rw[List.flatMap_append,B8];simpa using T,?_,?_,?_,l.map ((Aj.AJ (X:=fun _=>False) i).map hm id),?_,h.lo,?_⟩⟩
 ·rw[By,By]
  exact(a0.push i a3 hn a1.2).keeps l (by decide) (by decide)
 ·intro z hz
  rcases mA.1 hz with p|p
  ·exact h.new z p
  ·rw[mS.1 p];simp only;omega
 ·exact((h.Jr.AE (X:=fun _=>True) (fun g a5 i _=>C.Ap i (Dq h.map i))).below i).keeps l (by decide)
 ·refine(h.at_.next h.map.isMap y Z.length).congr fun s=>?_
  have:=jN (Z.map (·.2)) ⟨y,0,false⟩ hy s;simp only[lM]at this;rw[this,By];rfl
 ·intro a4 hi
  have:=h.tb a4 hi;rw[B8];omega
end
end
variable{m:Nat}
def CA.hand{w wr:World}{R T p U:Nat}{tv mp:Value}{Z:List (AH×AU)}{a0:List Nat}{D:DataW Unit}(h:CA w wr R T p U m tv Z a0 D){i j sx S:Nat}{emp:Bool}{x:AH×AU}{o:AH}(t:Z[i]?=some x)(l:Z[j]?=some z)(a4:AP wr o S)(hn:o.n=m)(hw:o.wb<w.heap.size) :
  () 190 #[mp,.agg #[sx,x.1.v,.bool xs],(p,j*3),.agg #[o.v,.bool emp]] wr fun e w'=>e=.returned (.bool (CB xs x.2.set z.2 (i==j) (S,emp)).2)/\CA w w' R T p U m tv (Z.set j (z.1,(CB xs x.2.set z.2 (i==j) (S,emp)).1)) a0 D/\Aj (fun k=>k=p\/k=z.1.wb) wr w':=by
 obtain⟨a1,a2⟩:=h.Ll t;obtain⟨I,J⟩:=h.Ll l;obtain⟨c0,c1,c2,c3⟩:=h.cells l;obtain⟨a5,a3,a6⟩:=h.Ap;have hz:=h.new z (mG l);have hs:(CB xs x.2.set z.2 (i==j) (S,emp)).1.s=z.2.s:=by
  unfold CB;split
  ·rfl
  ·split
   ·rfl
   ·split<;>rfl
 refine(dX (mp:=mp) (sx:=sx) (s2:=z.2.s) (xs:=xs) (emp:=emp) (own:=i==j) a1 a4 I (a2.trans J.symm) (hn.trans J.symm) ?_ (by omega) c1 c2 c3 (Ah.Bf a3 I.words (by decide))).mono ?_
 ·by_cases C:i=j
  ·subst C
   rw[t]at l;cases l
   simp
  ·have:(i==j)=false:=beq_false_of_ne C
   rw[this,if_neg (by simp)];exact h.apart t l C
 ·intro e w' P
  have h1:=h.handed l hs P;exact⟨P.1,h1⟩
theorem Gz.Fit.Mo{g:Gz}(h:g.Fit){k x:Nat}(i:x∈g.right k):x<=g.top:=by
 unfold Gz.right Gz.Bo at i;split at i
 ·simp at i
  rw[i];exact h.start.2
 ·rw[dG]at i
  cases j:g.R[k]? with
  | none=>rw[j]at i;cases i
  | some r=>rw[j]at i;exact(h.right r (mG j) x i).2
def jP{g:Gz}{T:List (List (Nat×Bool))}{i:Nat}{k:Nat}(h:g.right k=[]):g.Fp T i xs p k=p:=by unfold Gz.Fp;rw[h]
def Wt{g:Gz}{T:List (List (Nat×Bool))}{i:Nat}{k y:Nat}(h:g.right k=y::r)(j:g.BV y=false):g.Fp T i xs p k=p:=by unfold Gz.Fp;rw[h];simp only;rw[if_pos j]
def jY{g:Gz}{T:List (List (Nat×Bool))}{i:Nat}{k y j:Nat}{ci l:AU}(h:g.right k=y::r)(I:g.BV y=true)(p:EU out y=some j)(C:out[i]?=some ci)(t:out[j]?=some l):g.Fp T i xs (out,o) k=(out.set j (CB xs ci.set l (i==j) (Gz.Gg T k 0)).1,if (CB xs ci.set l (i==j) (Gz.Gg T k 0)).2 then o++[j] else o):=by unfold Gz.Fp;rw[h];simp only;rw[if_neg (by rw[I];simp)];unfold EU at p;rw[p];simp only;rw[dG,C,dG,t];rfl
def kU{g:Gz}{T:List (List (Nat×Bool))}{i:Nat}{k y:Nat}{ci:AU}(h:g.right k=y::r)(p:g.BV y=true)(l:EU out y=none)(j:out[i]?=some ci):g.Fp T i xs (out,o) k=((out++[(⟨y,0,false⟩:AU)]).set out.length (CB xs ci.set ⟨y,0,false⟩ (i==out.length) (Gz.Gg T k 0)).1,o++[out.length]):=by have t:=(sG.1 j).1;unfold Gz.Fp;rw[h];simp only;rw[if_neg (by rw[p];simp)];unfold EU at l;rw[l];simp only;rw[dG,j,show (i==out.length)=false from beq_false_of_ne (by omega),List.set_append_right _ _ (AF _),Nat.sub_self];rfl
def N3(mb s i l j o:Nat)(tv:Value)(f:Nat->Value):Act:={tmps:=#[.pointer (some ⟨mb,0,none⟩),.int .i64 s,f 2,f 3,.slice none 0 0,.map (some i),.slice (some ⟨l,0,none⟩) j o,tv,f 8,f 9,f 10,f 11,f 12,f 13,f 14,f 15,f 16,f 17,f 18,f 19,f 20,f 21,f 22,f 23,f 24,f 25,f 26,f 27,f 28,f 29,f 30,f 31,f 32,f 33,f 34,f 35,f 36,f 37,f 38,f 39,f 40,f 41,f 42,f 43,f 44,f 45,f 46,f 47,f 48,f 49,f 50,f 51,f 52,f 53,f 54,f 55,f 56,f 57,f 58,f 59,f 60,f 61,f 62,f 63,f 64,f 65,f 66,f 67,f 68,f 69,f 70,f 71,f 72,f 73,f 74,f 75,f 76,f 77,f 78,f 79,f 80,f 81,f 82,f 83,f 84,f 85,f 86,f 87,f 88,f 89,f 90,f 91,f 92,f 93,f 94,f 95,f 96,f 97,f 98,f 99,f 100,f 101,f 102,f 103,f 104,f 105,f 106,f 107,f 108,f 109,f 110,f 111,f 112,f 113,f 114,f 115,f 116,f 117,f 118],defers:=[]}
def VZ{w:World}{mb:Nat}{v rv uv cp:Value}{g:Gz}{T:List (List (Nat×Bool))}{CC:List AU}(hg:GN w v g)(hm:∀j,j<4->w.cell? ⟨mb,j,none⟩=v.cells[j]?)(c5:w.cell? (mb,5)=some rv)(c6:w.cell? (mb,6)=some cp)(c7:w.cell? (mb,7)=some uv)
  (hR:Du (Old w.heap.size) w rv (g.R.length+1) g.right) (hU:Du (Old w.heap.size) w uv (g.top+1) g.CD) (hT:FQ (Old w.heap.size) w (g.nt+1) cp (g.R.length+1) T) (e7:∀k,k<=g.R.length->(T.getD k []).length=(g.right k).length) (jg:g.nt<s) (hp:s<=g.top) (hc:g.JC T s=some CC) :
  () 156 #[(mb,0),s] w fun e w'=>∃cv,e=.returned cv/\DW (fun b=>w.heap.size<=b/\b<w'.heap.size) w' (g.nt+1) cv CC/\Below w w w':=by
 have bn:=hg.fit;have h1:=bn.nt;have j8:=bn.nn;have gz:=bn.nr;have j6:∀y:World,(Instr.makeMap 269 none).run Tryz.prog y=.ok (.map (some y.heap.size)) (y.alloc (.map #[] 0)):=fun y=>by kernel_rfl
 obtain⟨AT,cT,AN,cN,AR,cR,rfl,-,-⟩:=hg.open_;have di:mb<w.heap.size:=World.block_lt_of_cell? w _ (hm 0 (by omega));have HC:Hid (∀y,Below w w y->y.cell? (mb,0)=some (.slice AT g.nt cT)/\y.cell? (mb,1)=some (.slice AN g.nn cN)/\y.cell? (mb,2)=some (.slice AR g.R.length cR)/\y.cell? (mb,3)=some (.int .i64 g.s)/\y.cell? (mb,5)=some rv/\y.cell? (mb,6)=some cp/\y.cell? (mb,7)=some uv):=Hd (fun y C=>by
  have hh:∀j u,w.cell? ⟨mb,j,none⟩=some u->y.cell? ⟨mb,j,none⟩=some u:=fun j u hu=>(C.cell (p:=⟨mb,j,none⟩) di).trans hu
  exact⟨hh 0 _ (hm 0 (by omega)),hh 1 _ (hm 1 (by omega)),hh 2 _ (hm 2 (by omega)),hh 3 _ (hm 3 (by omega)),hh 5 _ c5,hh 6 _ c6,hh 7 _ c7⟩)
 have fq:Hid (∀y,Below w w y->Du (Old w.heap.size) y rv (g.R.length+1) g.right):=Hd (fun y C=>hR.AE (Aj.AJ (X:=fun b=>w.heap.size<=b) C) (fun b R h=>by unfold Old at R;omega));have g1:Hid (∀y,Below w w y->Du (Old w.heap.size) y uv (g.top+1) g.CD):=Hd (fun y C=>hU.AE (Aj.AJ (X:=fun b=>w.heap.size<=b) C) (fun b R h=>by unfold Old at R;omega));have fx:Hid (∀y,Below w w y->FQ (Old w.heap.size) y (g.nt+1) cp (g.R.length+1) T):=Hd (fun y C=>hT.AE (Aj.AJ (X:=fun b=>w.heap.size<=b) C) (fun b R h=>by unfold Old at R;omega))
 have fj:=Hd (fun y (C:Below w w y) (x:Nat)=>Ml (hg.later C) x);have dt:Hid (∀y,Below w w y->() 155 #[(mb,0),.slice none 0 0] y fun e w'=>∃h:AH,e=.returned h.v/\h.n=g.nt+1/\y.heap.size<=h.h/\y.heap.size<=h.wb/\AP w' h 0/\Below y y w'):=Hd (fun y C=>by have h0:=(C.cell (p:=⟨mb,0,none⟩) di).trans (hm 0 (by omega));exact UT (l:=[]) h0 h1 ⟨⟨none,0,rfl,fun k x U=>by simp at U⟩,by simp,fun A n c e=>by cases e;exact⟨AF _,fun _=>rfl⟩⟩ (fun x U=>by cases U))
 have dw:=Hd e7;have f8:=Hd hc;have fb:=Hd bn;have jl:g.top<=1000:=by unfold Gz.top;omega
 clear hg hm c5 c6 c7 hR hU hT e7 hc bn;go_enter func156,ntmps156
 go_wp2;refine Q4 0 (fun n a' wr=>∃(mm nD ob oc:Nat) (tv:Value) (Z:List (AH×AU)) (ab:List Nat) (D:DataW Unit),Hid (CA w wr mm nD ob oc (g.nt+1) tv Z ab D)/\Hid (g.Hs T n (Z.map (·.2)) ab=some CC)/\nD<=Z.length/\Z.length<=20000/\Hid (∀z∈Z,z.2.s<=g.top)/\a'=N3 mb s mm ob Z.length oc tv (fun i=>a'.tmps.getD i undef)) rfl ?pass ?first
 case first=>
  intro HJ;have fe:=Hd HJ;clear HJ;have ho:s<=100000:=by omega
  have dh:Gw (w.alloc (.map #[] 0)) w.heap.size 0 (.map []):=World.ownsMap_made (H:=Unit) w Tryz.prog 3 (plainElem Tryz.prog 3);obtain⟨w1,eo,ei,ef⟩:=ME dh (by omega) (s:=s) (c:=0) ho (by omega);rw[show ((0:Nat):Int)=0 from rfl]at eo;have cs:Hid (Below w w w1):=Hd (((Below.refl _ w).alloc (AF _) _).trans ((Aj.of_map ef).below (by simp) (fun k hk e=>by have e2:k=w.heap.size:=e;omega)));have fg:=Hd ei;have fd:=Hd dh.isMap;clear dh ei ef;go_wp2_with (
         go_at_call 155;refine(dt _ cs).mono ?_;rintro e w2 ⟨h0,rfl,az,bc,b5,b4,d8⟩
         have a6:=Hd (And.intro az (And.intro (And.intro bc b5) b4));have bp:=Hd d8;unfold AH.v;clear az bc b5 b4 d8)
  go_step3
  simp only[Exit.then];apply_assumption
  refine fe Gz.RD _ _ ?_;refine⟨w.heap.size,1,w2.heap.size,1,.slice (w2.heap.size+1,0) 1 1,[(h0,⟨s,0,true⟩)],[0],_,Hd (?_:CA _ _ _ _ _ _ _ _ _ _ (DataW.put (.map []) (Ck s) (.lit (.int .i64 ((0:Nat):Int))))),f8,AF _,by simp,Hd (fun z hz=>by rw[mS.1 hz];exact hp),rfl⟩;have i4:=cs.size;have i5:=bp.size;have ay:Below w w w2:=cs.trans (bp.mono i4);obtain⟨az,⟨bc,b5⟩,b4⟩:=a6.out;refine⟨(ay.alloc ay.size _).alloc (by simp;omega) _,?_,?_,?_,?_,(((Aj.AJ (X:=fun _=>False) bp).map fg id).alloc _).alloc _,?_,AF _,?_⟩
  ·refine⟨rfl,.inr ⟨w2.heap.size,1,#[s,h0.v,.bool true],rfl,ay.size,(Ah.new w2 266 _).alloc _,AF _,by decide,rfl,rfl⟩⟩
  ·have hf:=(Bw.nil w1 (g.nt+1)).push bp b4 az b5
   have gr:=(hf.later (DJ w2 (.cells #[s,h0.v,.bool true] 266))).later (DJ _ (.cells #[.int .i64 0] 3));exact gr
  ·intro z hz
   rw[mS.1 hz];simp only;omega
  ·refine⟨rfl,.inr ⟨w2.heap.size+1,0,1,#[.int .i64 0],rfl,by omega,Ah.newAt (by simp),AF _,by decide,by simp,fun j u hu=>?_⟩⟩
   match j,hu with
   | 0,hu=>simpa [AV] using hu
   | j+1,hu=>simp at hu
  ·refine(D9.start.next fd s 0).congr fun a=>?_
   unfold EU;by_cases ha:a=s
   ·subst ha;simp
   ·have:(s==a)=false:=beq_false_of_ne (fun e=>ha e.symm)
    simp[ha,this]
  ·intro i hi
   rw[mS.1 hi];simp
 case pass=>
  rintro n a' wr ⟨mm,nD,ob,oc,tv,Z,ab,D,HS,cw,gx,jr,e3,ha⟩;obtain⟨f,hf⟩:∃f,a'=N3 mb s mm ob Z.length oc tv f:=⟨_,ha⟩
  clear ha;subst hf;unfold N3;obtain⟨Aq,cq,hx⟩:=HS.Jr.shape;subst hx;cases n with
  | zero=>have h:=cw.out;simp[Gz.Hs]at h
  | succ n=>
   cases ab with
   | nil=>
    have HE:Hid (Z.map (·.2)=CC):=Hd (by have h:=cw.out;unfold Gz.Hs at h;exact Option.some.inj h);go_wp2;simp only[Exit.jump];go_ret;refine⟨_,rfl,?_,HS.below⟩;have hl:CC.length=Z.length:=by rw[<-HE.out,lM]
    obtain⟨ga,cd,h7⟩:=HS.Ap;have he:=Py HS.row;unfold DW;rw[hl];refine⟨_,oc,rfl,he.1,by omega,fun k hk=>⟨ob,0,rfl,⟨h7,cd.lt⟩,cd.lt,fun j hj=>?_⟩⟩;obtain⟨z,hz⟩:∃z,Z[k]?=some z:=⟨_,eG hk⟩
    have gl:CC.getD k ⟨0,0,false⟩=z.2:=by rw[<-HE.out,dG,pG,hz];rfl
    obtain⟨c0,c1,c2,-⟩:=HS.cells hz;obtain⟨a1,a2⟩:=HS.Ll hz;have f5:=HS.new z (mG hz);show ∃x,wr.cell? (ob,0+k*3+j)=some x/\(if j=0 then x=.int .i64 ((CC.getD k ⟨0,0,false⟩).s:Nat) else if j=1 then ∃h:AH,x=h.v/\h.n=g.nt+1/\IA (fun b=>w.heap.size<=b/\b<wr.heap.size) wr h (CC.getD k ⟨0,0,false⟩).set else x=.bool (CC.getD k ⟨0,0,false⟩).self)
    rw[gl,Nat.zero_add]
    match j,hj with
    | 0,_=>exact⟨_,c0,rfl⟩
    | 1,_=>exact⟨_,c1,z.1,rfl,a2,a1,⟨f5.1,a1.head.lt⟩,⟨f5.2,a1.words.lt⟩⟩
    | 2,_=>exact⟨_,c2,rfl⟩
   | cons i ab=>
    have b1:=cw.out;unfold Gz.Hs at b1;have iz:Z.length+ab.length<=10000:=by
     split at b1
     ·cases b1
     ·rename_i h;rw[lM]at h;omega
    rw[if_neg (by rw[lM];omega)]at b1;have gu:=HS.tb i (by simp);obtain⟨⟨U,o⟩,ca⟩:∃z,Z[i]?=some z:=⟨_,eG gu⟩
    have eg:(Z.map (·.2)).getD i ⟨0,0,false⟩=o:=by rw[dG,pG,ca];rfl
    rw[eg]at b1;have f9:=Hd b1;obtain⟨q,off,gf,hd,ep,er⟩:=HS.Jr.at_ (by simp);subst gf;have q0:wr.cell? ⟨q,off,none⟩=some (.int .i64 i):=by have:=er 0 _ rfl;simpa [AV] using this
    simp only[List.length_cons]at ep;obtain⟨cm,h9,en⟩:∃cm:Nat,(if cq=1 then some (⟨q,off,none⟩:Addr) else some ⟨q,off+1,none⟩)=some ⟨q,cm,none⟩/\(cm=off+1\/(cq=1/\cm=off)):=by
     by_cases P:cq=1
     ·exact⟨off,by rw[if_pos P],.inr ⟨P,rfl⟩⟩
     ·exact⟨off+1,by rw[if_neg P],.inl rfl⟩
    have gp:(1:Int)<=(cq:Int):=by omega
    have gq:((ab.length:Int)+1)<=(cq:Int):=by omega
    have hb:(0:Int)<((ab.length:Int)+1):=by omega
    have cf:(((ab.length:Int)+1)==0)=false:=by rw[bN];omega
    have fs:=Hd (HS.L3 (Cb.tail HS.Jr en));obtain⟨x0,x1,x2,-⟩:=HS.cells ca;simp only at x0 x1 x2;unfold AH.v at x1;have j2:(i:Int)<(Z.length:Int):=by omega
    have c8:=Hd (Ah.new wr 266 #[.int .i64 (o.s:Nat),(U.h,0),.bool o.self]);have d1:=Hd (fs.later (DJ wr (.cells #[.int .i64 (o.s:Nat),(U.h,0),.bool o.self] 266)));have e0:=Hd ca;clear er en b1 eg ca ep;have iy:o.s<=g.top:=e3 _ (mG e0);obtain⟨y0,y1,y2,y3,y5,y6,y7⟩:=HC _ d1.below;obtain⟨bu,ou,cu,Ak,ck,i0,iv,hy,f0⟩:=(g1 _ d1.below).at_ (k:=o.s) (by omega);subst i0;have g0:=Hd f0;have jh:(o.s:Int)<((g.top:Int)+1):=by omega
    have ji:(o.s:Int)<((g.top+1:Nat):Int):=by omega
    go_upto_region 8 with fail
    have gw:mb<(wr.alloc (.cells #[.int .i64 (o.s:Nat),(U.h,0),.bool o.self] 266)).heap.size:=by have:=HS.below.size;simp;omega
    have z0:(wr.alloc (.cells #[.int .i64 (o.s:Nat),(U.h,0),.bool o.self] 266)).cell? (wr,0)=some (.int .i64 (o.s:Nat)):=Ah.cell c8 0;have zl:wr.heap.size<(wr.alloc (.cells #[.int .i64 (o.s:Nat),(U.h,0),.bool o.self] 266)).heap.size:=Ah.lt c8;have h8:ob≠wr.heap.size:=by obtain⟨ga,cd,_⟩:=HS.Ap;have:=cd.lt;omega
    have je:(g.CD o.s).length<=300:=AW (LY g o.s) gz;have b3:∀k∈g.CD o.s,k<g.R.length:=fun k hk=>by unfold Gz.CD at hk;exact List.mem_range.1 (List.mem_filter.1 hk).1
    have fl:=Hd b3;generalize et:g.CD o.s=rules at *;have im:=Hd et;generalize el:rules.length=nr at *;have du:=Hd el;generalize f1:wr.heap.size=t at *;have g3:=Hd f1;generalize wr.alloc (.cells #[.int .i64 (o.s:Nat),(U.h,0),.bool o.self] 266)=W at *;clear et el f1 b3 f0 q0 h9 gp gq hb cf x0 x1 x2 hd;go_quiet (fail)
    have HD:∀n,Below W W (W.drewN n):=fun n=>⟨rfl,rfl,rfl,AF _,fun _ _=>rfl⟩
    have fr:=Hd (d1.later (HD nq));have g2:=Hd (c8.below (HD nq) c8.lt);have fz:Hid (B9 (Old w.heap.size) (W.drewN nq) (.slice Ak nr ck) rules):=Hd (g0.AE (Aj.AJ (X:=fun _=>False) (HD nq)) (fun _ _=>id));generalize W.drewN nq=W1 at *;clear HD z0 zl hy y0 y1 y2 y3 y5 y6 y7 gw;go_wp2_with fail
    go_loopw [6,7,44] (fun ov tv jj wy=>∃(k af a5 ag:Nat) (l:List (AH×AU)) (a4:List Nat) (D':DataW Unit),k<=nr/\jj=.int .i64 k/\ov=.slice (a5,0) l.length ag/\Hid (CA w wy mm af a5 ag (g.nt+1) tv l a4 D')/\Hid (Ah wy t 266 #[.int .i64 (o.s:Nat),(U.h,0),.bool o.self])/\a5≠t/\Hid ((l.map (·.2),a4)=(rules.take k).foldl (g.Fp T i o.self) (Z.map (·.2),ab))/\Hid (∃c,l[i]?=some (U,c))/\af<=l.length/\l.length<=Z.length+k/\a4.length<=ab.length+k/\Hid (∀z∈l,z.2.s<=g.top)/\Hid (B9 (Old w.heap.size) wy (.slice Ak nr ck) rules)) (fun _ _ jj _=>nr-(intOf jj).toNat)
    case atStart=>exact⟨0,nD,ob,oc,Z,ab,D,AX _,rfl,rfl,fr,g2,h8,Hd rfl,Hd ⟨o,e0⟩,gx,by omega,by omega,e3,fz⟩
    case round=>
     obtain⟨k,af,a5,ag,l,a4,D',hk,rfl,rfl,a6,a7,b0,dr,d6,dj,i5,jk,bb,b9⟩:=hrel;rename World=>w7
     by_cases gv:k<nr
     ·obtain⟨rk,b3⟩:∃x,rules[k]?=some x:=⟨_,eG (by rw[du.out];exact gv)⟩
      have jd:=fl rk (mG b3);obtain⟨bk,ok,gd,iq,ir,iw⟩:=b9.at_ b3;subst gd;have aq:=Hd a6.below;obtain⟨y0,y1,y2,y3,y5,y6,y7⟩:=HC _ aq;obtain⟨br,js,cr,ik,ip,hn,it,cg,bd⟩:=(fq _ aq).at_ (k:=rk) (by omega);subst hn;have bi:=Hd (Lw (g.Fp T i o.self) rules (Z.map (·.2),ab) k rk b3);rw[<-dr.out]at bi;have jb:(rk:Int)<((g.R.length+1:Nat):Int):=by omega
      have jc:(rk:Int)<(g.R.length:Int)+1:=by omega
      have j9:(k:Int)<(nr:Int):=by omega
      clear b3;cases aa:g.right rk with
      | nil=>
       have cy:=Hd (bi.trans (jP aa));rw[aa]at cg bd;simp only[List.length_nil]at cg;clear aa;go_upto_region 12 with fail
       go_quiet (fail)
       have cx:Hid (Below w7 w7 (w7.drewN nq)):=Hd ⟨rfl,rfl,rfl,AF _,fun _ _=>rfl⟩;go_wp2_with fail
       go_roundw
       case rel=>exact⟨k+1,af,a5,ag,l,a4,D',by omega,by go_num,rfl,Hd (a6.later cx),Hd (a7.below cx a7.lt),b0,Hd cy.symm,d6,dj,by omega,by omega,bb,Hd (b9.AE (Aj.AJ (X:=fun _=>False) cx) (fun _ _=>id))⟩
       case measure=>simp[intOf];omega
      | cons y rest=>
       rw[aa]at cg bd;simp only[List.length_cons]at cg bd;obtain⟨bq,oq,gg,gi,d9,dc⟩:=bd.at_ (k:=0) rfl;subst gg;rw[Nat.add_zero]at dc;have f3:y<=g.top:=fb.Mo (k:=rk) (x:=y) (by rw[aa];simp);have j7:(((rest.length:Int)+1)==0)=false:=by rw[bN];omega
       have ja:(0:Int)<(rest.length:Int)+1:=by omega
       have ai:Hid (Below w7 w7 w7.drew):=Hd ((Below.refl _ w7).drew);have bw:=Hd (fj w7.drew (aq.trans (ai.mono aq.size)) y);have ar:Hid (∀v,Below w7 w7 v->v.cell? (mb,0)=some (.slice AT g.nt cT)/\v.cell? (mb,1)=some (.slice AN g.nn cN)/\v.cell? (mb,2)=some (.slice AR g.R.length cR)/\v.cell? (mb,3)=some (.int .i64 g.s)/\v.cell? (bq,oq)=some (.int .i64 y)):=Hd (fun v hv=>by obtain⟨a0,a1,a2,a3,-⟩:=HC _ (aq.trans (hv.mono aq.size));exact⟨a0,a1,a2,a3,(hv.cell (p:=⟨bq,oq,none⟩) d9).trans dc⟩)
       cases C:g.BV y with
       | false=>
        have cy:=Hd (bi.trans (Wt aa C));have HY:=Hd C;clear aa C bd;go_upto_region 12 with fail
        go_region_held3 (fun v=>v.cell? (mb,0)=some (.slice AT g.nt cT)/\v.cell? (mb,1)=some (.slice AN g.nn cN)/\v.cell? (mb,2)=some (.slice AR g.R.length cR)/\v.cell? (mb,3)=some (.int .i64 g.s)/\v.cell? (bq,oq)=some (.int .i64 y))
          (first|exact ar _ ai|exact ar _ p)
          (first|(
                  go_at_call 141;refine bw.mono ?_;rintro e w8 ⟨rfl,ad⟩
                  rw[HY.out];have p:=Hd (ai.trans ad);clear ad))
        go_wp2_with fail
        go_roundw
        case rel=>exact⟨k+1,af,a5,ag,l,a4,D',by omega,by go_num,rfl,Hd (a6.later p),Hd (a7.below p a7.lt),b0,Hd cy.symm,d6,dj,by omega,by omega,bb,Hd (b9.AE (Aj.AJ (X:=fun _=>False) p) (fun _ _=>id))⟩
        case measure=>simp[intOf];omega
       | true=>
        have HY:=Hd C;obtain⟨ci,ak⟩:=d6.out;obtain⟨a8,cj⟩:∃a8,(T.getD rk [])[0]?=some a8:=⟨_,eG (by rw[dw.out rk (by omega),aa];simp)⟩
        have ev:Gz.Gg T rk 0=a8:=by unfold Gz.Gg;rw[dG,cj];rfl
        obtain⟨bt,ot,ct,xt,hs,⟨da,iu⟩,dd,ew⟩:=(fx _ aq).at_ (k:=rk) (by omega);subst hs;obtain⟨b2,o2,c2,ht,i3,⟨cc,d8⟩,dk,dm,ez,ch⟩:=ew.at_ cj;subst i3;rw[Nat.zero_mul,Nat.add_zero]at dk dm;have da:bt<w.heap.size:=da;have cc:b2<w.heap.size:=cc;have dn:ht.wb<w.heap.size:=ch.2.2;have fw:=Hd dn;have dx:=Hd ch.1;have hr:ht.h<w.heap.size:=ch.2.1;have fu:=Hd hr;have hw:(0:Int)<((T.getD rk []).length:Int):=by have:=dw rk (by omega);rw[aa,List.length_cons]at this;omega
        obtain⟨cn,ey⟩:∃n,(T.getD rk []).length=n:=⟨_,rfl⟩
        rw[ey]at dd hw;have jm:0<cn:=by omega
        have jn:¬(cn=0):=by omega
        have e6:∀v v',Below w7 w7 v->∀X:Nat->Prop,Aj X v v'->(∀q,X q->w.heap.size<=q/\q≠t)->v'.cell? (t,0)=some (.int .i64 (o.s:Nat))/\v'.cell? (t,1)=some (.pointer (U.h,0))/\v'.cell? (t,2)=some (.bool o.self)/\v'.cell? (mb,6)=some (.slice (bt,ot) (g.R.length+1) ct)/\v'.cell? (bt,ot+rk)=some (.slice (b2,o2) cn c2)/\v'.cell? (b2,o2)=some (.pointer (ht.h,0))/\v'.cell? (b2,o2+1)=some (.bool a8.2):=fun v v' hv X hc hX=>by
          have jo:=hv.size;have jq:=aq.size;have i2:=a7.lt;have gj:=a7.below hv i2;have KW:∀(b j:Nat) (u:Value),b<w.heap.size->w7.cell? ⟨b,j,none⟩=some u->v'.cell? ⟨b,j,none⟩=some u:=fun b j u R hu=>(hc.cell (by omega) (fun e=>by have:=(hX b e).1;omega) j).trans ((hv.cell (p:=⟨b,j,none⟩) (by show b<w7.heap.size;omega)).trans hu)
          have ay:=hc.Ap gj (fun e=>(hX t e).2 rfl);exact⟨Ah.cell ay 0,Ah.cell ay 1,Ah.cell ay 2,KW mb 6 _ di y6,KW bt _ _ da dd,KW b2 _ _ cc dk,KW b2 _ _ cc dm⟩
        have bz:=Hd e6;have jf:(rk:Int)<((g.R.length+1:Nat):Int):=by omega
        clear e6 ew ch dd dk dm bd ey;have cl:y<=100000:=by omega
        cases hj:EU (l.map (·.2)) y with
        | some j=>
          have eh:j<l.length:=by unfold EU at hj;have:=(List.findIdx?_eq_some_iff_findIdx_eq.1 hj).1;simpa using this
          obtain⟨z,hz⟩:∃z,l[j]?=some z:=⟨_,eG eh⟩
          have an:=bi.trans (jY aa C hj (by rw[pG,ak];rfl) (by rw[pG,hz];rfl));rw[ev]at an;have ae:=Hd (fun v (hv:Below w7 w7 v)=>(a6.later hv).hand (mp:=.pointer (mb,0)) (sx:=o.s) (xs:=o.self) (emp:=a8.2) ak hz (dx.later hv) ez dn);have ee:CB o.self ci.set z.2 (i==j) (a8.1,a8.2)=CB o.self ci.set z.2 (i==j) a8:=rfl;simp only[ee]at ae;have dp:(CB o.self ci.set z.2 (i==j) a8).1.s=z.2.s:=by
           unfold CB;split
           ·rfl
           ·split
            · rfl
            · split<;>rfl
          generalize be:CB o.self ci.set z.2 (i==j) a8=rr at *;obtain⟨rc,rb⟩:=rr;simp only at an ae dp;have bx:=Hd an;have HJ:=Hd hj;have f4:=a6.new z (mG hz);have i1:=a7.lt;have cf:z.1.wb≠t:=fun e=>Ah.Bf a7 (a6.Ll hz).1.words (by decide) e.symm
          have e5:=Hd (And.intro f4.2 (And.intro cf b0));have av:=a6.Ap;obtain⟨_,_,av⟩:=av;have dv:=Hd av;have j5:(j:Int)<(l.length:Int):=by omega
          have dz:Hid ((l.set j (z.1,rc))[i]?=some (U,if i=j then rc else ci)):=Hd (by
           by_cases df:i=j
           ·subst df
            rw[ak]at hz;cases hz
            rw[tG eh,if_pos rfl]
           ·rw[uG (fun e=>df e.symm),ak,if_neg df])
          have e1:Hid ((l.set j (z.1,rc)).map (·.2)=(l.map (·.2)).set j rc):=Hd (by rw[List.map_set]);have e4:Hid (∀y∈l.set j (z.1,rc),y.2.s<=g.top):=Hd (fun y C=>by
           rcases List.mem_or_eq_of_mem_set C with P|rfl
           ·exact bb y P
           ·simp only;rw[dp];exact bb z (mG hz))
          clear aa C hj an cj hz ak f4 i1 cf av ee be dp;cases rb with
          | false=>
           go_upto_region 12 with fail
           go_region_held3 (fun v=>v.cell? (mb,0)=some (.slice AT g.nt cT)/\v.cell? (mb,1)=some (.slice AN g.nn cN)/\v.cell? (mb,2)=some (.slice AR g.R.length cR)/\v.cell? (mb,3)=some (.int .i64 g.s)/\v.cell? (bq,oq)=some (.int .i64 y))
            (first|exact ar _ ai|exact ar _ p)
            (first|(
                    go_at_call 141;refine bw.mono ?_;rintro e w8 ⟨rfl,ad⟩
                    rw[HY.out];have p:=Hd (ai.trans ad);have a9:=Hd (a6.later p);have au:=ML a9.map a9.at_ cl;rw[HJ.out]at au;simp only[Option.getD_some,Option.isSome_some]at au;clear ad))
           go_upto_region 18 with fail
           go_region_held3 (fun v'=>v'.cell? (t,0)=some (.int .i64 (o.s:Nat))/\v'.cell? (t,1)=some (.pointer (U.h,0))/\v'.cell? (t,2)=some (.bool o.self)/\v'.cell? (mb,6)=some (.slice (bt,ot) (g.R.length+1) ct)/\v'.cell? (bt,ot+rk)=some (.slice (b2,o2) cn c2)/\v'.cell? (b2,o2)=some (.pointer (ht.h,0))/\v'.cell? (b2,o2+1)=some (.bool a8.2))
            (first|exact bz w8.drew w8.drew p.drew (fun _=>False) (Aj.refl _ _) (fun _ h=>h.elim)|exact bz w8.drew J p.drew _ ah ba)
            (first|(
                    go_at_call 190;refine(ae _ p.drew).mono ?_;rintro e J ⟨rfl,bo,al⟩
                    have aj:=Hd bo;have ah:=Hd al;have ba:Hid (∀q,(q=a5\/q=z.1.wb)->w.heap.size<=q/\q≠t):=Hd (fun q hq=>by
                     have P:=e5.out;have h2:=dv.out;rcases hq with rfl|rfl
                     ·exact⟨h2,P.2.2⟩
                     ·exact⟨P.1,P.2.1⟩)
                    have bm:=Hd (al.Ap (a7.below p.drew a7.lt) (fun e=>(ba t e).2 rfl));have bj:Hid (B9 (Old w.heap.size) J (.slice (bk,ok) nr ck) rules):=Hd ((b9.AE (Aj.AJ (X:=fun _=>False) p.drew) (fun _ _=>id)).AE al (fun b R e=>by have:=(ba b e).1;unfold Old at R;omega));clear bo al))
           all_goals go_wp2_with fail
           all_goals go_roundw
           all_goals first
            | (simp[intOf];omega)
            | exact⟨k+1,af,a5,ag,l.set j (z.1,rc),a4,D',by omega,by go_num,by rw[List.length_set],aj,bm,b0,Hd (by rw[bx.out,e1.out];rfl),Hd ⟨_,dz⟩,by rw[List.length_set];omega,by rw[List.length_set];omega,by omega,e4,bj⟩
          | true=>
           go_upto_region 12 with fail
           go_region_held3 (fun v=>v.cell? (mb,0)=some (.slice AT g.nt cT)/\v.cell? (mb,1)=some (.slice AN g.nn cN)/\v.cell? (mb,2)=some (.slice AR g.R.length cR)/\v.cell? (mb,3)=some (.int .i64 g.s)/\v.cell? (bq,oq)=some (.int .i64 y))
            (first|exact ar _ ai|exact ar _ p)
            (first|(
                    go_at_call 141;refine bw.mono ?_;rintro e w8 ⟨rfl,ad⟩
                    rw[HY.out];have p:=Hd (ai.trans ad);have a9:=Hd (a6.later p);have au:=ML a9.map a9.at_ cl;rw[HJ.out]at au;simp only[Option.getD_some,Option.isSome_some]at au;clear ad))
           go_upto_region 18 with fail
           obtain⟨i9,ia,ib,ic,ie,ig,ih⟩:=bz w8 w8 p (fun _=>False) (Aj.refl _ _) (fun _ h=>h.elim);first|(go_region_law (first|(
                         go_simp;go_at_call 190;refine(ae _ p.drew).mono ?_;rintro e J ⟨rfl,bo,al⟩;have aj:=Hd bo;have ah:=Hd al;have ba:Hid (∀q,(q=a5\/q=z.1.wb)->w.heap.size<=q/\q≠t):=Hd (fun q hq=>by
                          have P:=e5.out;have h2:=dv.out;rcases hq with rfl|rfl
                          ·exact⟨h2,P.2.2⟩
                          ·exact⟨P.1,P.2.1⟩)
                         have bm:=Hd (al.Ap (a7.below p.drew a7.lt) (fun e=>(ba t e).2 rfl));have bj:Hid (B9 (Old w.heap.size) J (.slice (bk,ok) nr ck) rules):=Hd ((b9.AE (Aj.AJ (X:=fun _=>False) p.drew) (fun _ _=>id)).AE al (fun b R e=>by have:=(ba b e).1;unfold Old at R;omega));clear bo al)))|fail
           all_goals go_wp2_with (
                        at_builtin;refine OA Iq (.tmp 114) (.tmp 116) rfl rfl (base:=w.heap.size) (n:=a4.length) (m:=1) (N:=a4.length+1) (xs:=a4.map AV) (news:=[.int .i64 j]) rfl rfl (aj.later (AG J (.cells #[.int .i64 j] 3))).Jr (AY.Ap (c:=1) (cs:=[.int .i64 j]) (Ah.new J 3 _) rfl (by simp[Value.oneCell'])) (by omega) rfl (by unfold maxLen;omega) (by omega) (aj.later (AG J (.cells #[.int .i64 j] 3))).below.size ?_
                        intro f6 g9 b7 r1 I r3;have il:=Hd I;have d0:=Hd ((aj.later (AG J (.cells #[.int .i64 j] 3))).SJ (i:=j) (by rw[List.length_set];omega) r1 I);have d5:=Hd (I.Ap (bm.alloc (.cells #[.int .i64 j] 3)) (.inr (by decide)));have d3:=Hd ((bj.AE (Aj.AJ (X:=fun _=>False) (AG J (.cells #[.int .i64 j] 3))) (fun _ _=>id)).AE (X:=fun b=>w.heap.size<=b) ⟨I.os,I.tape,I.output,I.size,fun q hq U=>I.block q hq (.inl (by omega))⟩ (fun b R e=>by unfold Old at R;omega));clear r1 I r3)
           all_goals go_roundw
           all_goals first
            | (simp[intOf];omega)
            | exact⟨k+1,af,a5,ag,l.set j (z.1,rc),a4++[j],D',by omega,by go_num,by rw[List.length_set],Hd (by simpa using d0.out),d5,b0,Hd (by rw[bx.out,e1.out];rfl),Hd ⟨_,dz⟩,by rw[List.length_set];omega,by rw[List.length_set];omega,by simp;omega,e4,d3⟩
        | none=>
          have an:=bi.trans (kU aa C hj (by rw[pG,ak];rfl));rw[ev,lM]at an;have HJ:=Hd hj;have gs:i<l.length:=(sG.1 ak).1;obtain⟨rr,be⟩:∃rr,CB o.self ci.set ⟨y,0,false⟩ (i==l.length) a8=rr:=⟨_,rfl⟩
          rw[be]at an;have fo:=Hd be;have bx:=Hd an;have g5:=Hd ak;have i6:l.length<=100000:=by omega
          have gy:af<=10000000:=by omega
          obtain⟨_,_,av⟩:=a6.Ap;have dg:=a6.lo;have f2:w.heap.size<=t:=by rw[<-g3.out];exact HS.below.size
          have ek:mm≠t:=fun e=>(Dq a6.map a7) e.symm
          have bl:Hid (∀q,(q=mm\/q=a5)->w.heap.size<=q/\q≠t):=Hd (fun q hq=>by
           rcases hq with rfl|rfl
           ·exact⟨dg,ek⟩
           ·exact⟨av,b0⟩)
          have es:rr.1.s=y:=by
           rw[<-be];unfold CB;split
           ·rfl
           ·split
            · rfl
            · split<;>rfl
          have fp:=Hd es;have j0:(i:Int)<(l.length:Int)+1:=by omega
          have j1:(i:Int)<((l.length+1:Nat):Int):=by omega
          have j3:(l.length:Int)<(l.length:Int)+1:=by omega
          have j4:(l.length:Int)<((l.length+1:Nat):Int):=by omega
          have ds:=Hd (show w.heap.size<=a5/\w.heap.size<=mm/\w.heap.size<=t from ⟨av,dg,f2⟩);have ed:bq<w.heap.size:=gi;have f7:=Hd ed;clear aa C hj an be cj ak av dg f2 ed ek es;go_upto_region 12 with fail
          go_region_held3 (fun v=>v.cell? (mb,0)=some (.slice AT g.nt cT)/\v.cell? (mb,1)=some (.slice AN g.nn cN)/\v.cell? (mb,2)=some (.slice AR g.R.length cR)/\v.cell? (mb,3)=some (.int .i64 g.s)/\v.cell? (bq,oq)=some (.int .i64 y))
           (first|exact ar _ ai|exact ar _ p)
           (first|(
                   go_at_call 141;refine bw.mono ?_;rintro e w8 ⟨rfl,ad⟩
                   rw[HY.out];have p:=Hd (ai.trans ad);have a9:=Hd (a6.later p);have au:=ML a9.map a9.at_ cl;rw[HJ.out]at au;simp only[Option.getD_none,Option.isSome_none]at au;obtain⟨J,eo,ej,de⟩:=ME a9.map gy cl (c:=l.length) i6;have fh:=Hd ej;have fc:=Hd de;have ah:Hid (Aj (·=mm) w8 J):=Hd (Aj.of_map de);have ec:bq<w8.heap.size:=Ba d9 p.size;have gm:J.cell? (bq,oq)=some (.int .i64 y):=(ah.cell ec (fun e=>by have:=ds.2.1;have:=f7.out;omega) oq).trans ((p.cell (p:=⟨bq,oq,none⟩) d9).trans dc)
                   have dq:Hid (Below w w J):=Hd (a9.below.trans (ah.below a9.below.size (fun q hq e=>by have:=ds.2.1;omega)));have ff:=Hd (dt J.drew dq.drew);clear ej de ad))
          go_upto_region 17 with fail
          have fm:Hid (J.ownsRow w 266 3 (.slice (a5,0) l.length ag) l.length (l.flatMap Fw)):=Hd (ah.own a9.row (fun b R=>Hv a9.map a9.row b R));have gh:bq<J.heap.size:=Ba ec ah.size;go_region_law (first
           | (
             go_simp;go_at_call 155;refine ff.mono ?_;rintro e b6 ⟨t0,rfl,az,bc,b5,b4,hb10⟩;have ao:Hid (Below J J b6):=Hd (((Below.refl _ J).drew).trans hb10);have ix:b6.cell? (bq,oq)=some (.int .i64 y):=(ao.cell (p:=⟨bq,oq,none⟩) gh).trans gm;have d2:Hid (t0.n=g.nt+1/\(J.heap.size<=t0.h/\J.heap.size<=t0.wb)/\AP b6 t0 0):=Hd ⟨az,⟨bc,b5⟩,b4⟩;have bh:=Hd (DJ b6 (.cells #[.int .i64 y,(t0.h,0),.bool false] 266));unfold AH.v;clear az bc b5 b4 hb10)
           | (
             refine EG dU (.tmp 86) (.tmp 93) ?_ ?_ (base:=w.heap.size) (n:=l.length) (m:=1) (N:=l.length+1) (v:=.slice (a5,0) l.length ag) (src:=.slice (b6,0) 1 1) (xs:=l.flatMap Fw) (news:=Fw (t0,⟨y,0,false⟩)) ?_ ?_ ?_ ?_ ?_ ?_ ?_ ?_ ?_
             · rfl
             · rfl
             · rfl
             · rfl
             · exact AS (AS fm ao) bh
             · exact AY.Ap (c:=1) (cs:=Fw (t0,⟨y,0,false⟩)) (Ah.new b6 266 _) rfl (fun u hu=>by unfold Fw at hu;simp at hu;rcases hu with rfl|rfl|rfl<;>rfl)
             · rfl
             · unfold maxLen;omega
             · omega
             · have P:=dq.size;have h2:=ao.size;simp;omega
             intro ij g8 aw r1 I r3;have fi:=a9.more HJ fh fc (ao.trans (bh.mono ao.size)) (d2.2.2.later bh) d2.1 d2.2.1 r1 I;obtain⟨bf,gb,cz⟩:=fi;subst gb;have cz:=Hd cz;have em:bf≠t:=by
               rcases r3.2 with e|e
               · have e2:some bf=some a5:=e
                 cases e2;exact b0
               · have e2:some bf=some (b6.alloc (.cells #[.int .i64 y,(t0.h,0),.bool false] 266)).heap.size:=e
                 have P:=a7.lt;have h2:=p.size;have h3:=ah.size;have h4:=ao.size;have h5:=bh.size;have h6:=Option.some.inj e2;omega
             have bv:Hid (Aj (fun q=>q=mm\/q=a5) w8 aw):=Hd (((ah.mono fun q hq=>.inl hq).next (Aj.AJ (ao.trans (bh.mono ao.size)))).next ((Aj.CE r3.1).mono fun q hq=>.inr (by cases hq;rfl)));clear r1 I r3))
          all_goals go_upto_region 18 with fail
          all_goals
           obtain⟨i9,ia,ib,ic,ie,ig,ih⟩:=bz w8 aw p _ bv bl;have d4:=Hd (bv.Ap (a7.below p a7.lt) (fun e=>(bl t e).2 rfl));have fy:Hid (B9 (Old w.heap.size) aw (.slice (bk,ok) nr ck) rules):=Hd ((b9.AE (Aj.AJ (X:=fun _=>False) p) (fun _ _=>id)).AE bv (fun b R e=>by have:=(bl b e).1;unfold Old at R;omega));have fv:Hid (AP aw ht a8.1):=Hd ((dx.later p).AE bv (fun e=>by have P:=(bl _ e).1;have h2:=fu.out;omega) (fun e=>by have P:=(bl _ e).1;have h2:=fw.out;omega))
           obtain⟨Z9,ax⟩:∃Z9,l++[(t0,⟨y,0,false⟩)]=Z9:=⟨_,rfl⟩
           have e9:Z9.length=l.length+1:=by rw[<-ax];simp
           have d7:Z9[i]?=some (U,ci):=by rw[<-ax,gL gs];exact g5
           have cb:Z9[l.length]?=some (t0,⟨y,0,false⟩):=by rw[<-ax];simp
           have ea:(Z9.set l.length (t0,rr.1)).map (fun z:AH×AU=>z.2)=(l.map (fun z:AH×AU=>z.2)++[(⟨y,0,false⟩:AU)]).set l.length rr.1:=by rw[<-ax,List.map_set,By];rfl
           have eb:∀z∈Z9.set l.length (t0,rr.1),z.2.s<=g.top:=fun z hz=>by
            rcases List.mem_or_eq_of_mem_set hz with P|rfl
            · rw[<-ax]at P
              rcases mA.1 P with h2|h2
              · exact bb z h2
              · rw[mS.1 h2];exact f3
            · simp only;rw[fp.out];exact f3
           have e8:(Z9.set l.length (t0,rr.1))[i]?=some (U,ci):=by rw[uG (by omega),d7]
           have b8:=cz.out;rw[ax]at b8;have ae:=(b8.later (((Below.refl _ aw).drew))).hand (mp:=.pointer (mb,0)) (sx:=o.s) (xs:=o.self) (emp:=a8.2) d7 cb (fv.later ((Below.refl _ aw).drew)) ez dn;simp only[show CB o.self ci.set (⟨y,0,false⟩:AU) (i==l.length) (a8.1,a8.2)=rr from fo.out]at ae;have ae:=Hd ae;have g6:=Hd ea;have g7:=Hd eb;have g4:=Hd e8;have fk:Hid (w.heap.size<=bf):=Hd (by obtain⟨_,_,hh⟩:=b8.Ap;exact hh);have ft:Hid (w.heap.size<=t0.wb/\t0.wb≠t):=Hd (by have h0:=b8.new _ (mG cb);exact⟨h0.2,fun e=>Ah.Bf d4 (b8.Ll cb).1.words (by decide) e.symm⟩)
           have dy:Hid (∀q,(q=bf\/q=t0.wb)->w.heap.size<=q/\q≠t):=Hd (fun q hq=>by
            rcases hq with rfl|rfl
            · exact⟨fk,em⟩
            · exact ft)
           clear ax d7 cb ea eb e8 b8;have c9:=Hd e9;clear e9;obtain⟨rc,rb⟩:=rr;simp only at ae
          all_goals cases rb
          all_goals
           first|(go_region_law (first|(
                         go_simp;go_at_call 190;refine ae.mono ?_;rintro e b7 ⟨rfl,eu,db⟩;have aj:=Hd eu;have bm:=Hd (db.Ap (d4.below ((Below.refl _ aw).drew) d4.lt) (fun e=>(dy t e).2 rfl));have bj:Hid (B9 (Old w.heap.size) b7 (.slice (bk,ok) nr ck) rules):=Hd ((fy.AE (Aj.AJ (X:=fun _=>False) ((Below.refl _ aw).drew)) (fun _ _=>id)).AE db (fun b R e=>by have:=(dy b e).1;unfold Old at R;omega));clear eu db)))|fail
          all_goals go_wp2_with (
                       at_builtin;refine OA Iq (.tmp 114) (.tmp 116) rfl rfl (base:=w.heap.size) (n:=a4.length) (m:=1) (N:=a4.length+1) (xs:=a4.map AV) (news:=[.int .i64 l.length]) rfl rfl (aj.later (AG b7 (.cells #[l.length] 3))).Jr (AY.Ap (c:=1) (cs:=[.int .i64 l.length]) (Ah.new b7 3 _) rfl (by simp[Value.oneCell'])) (by omega) rfl (by unfold maxLen;omega) (by omega) (aj.later (AG b7 (.cells #[l.length] 3))).below.size ?_
                       intro f6 g9 jt r1 I r3;have d0:=Hd ((aj.later (AG b7 (.cells #[l.length] 3))).SJ (i:=l.length) (by rw[List.length_set,c9.out];omega) r1 I);have d5:=Hd (I.Ap (bm.alloc (.cells #[l.length] 3)) (.inr (by decide)));have d3:=Hd ((bj.AE (Aj.AJ (X:=fun _=>False) (AG b7 (.cells #[l.length] 3))) (fun _ _=>id)).AE (X:=fun b=>w.heap.size<=b) ⟨I.os,I.tape,I.output,I.size,fun q hq U=>I.block q hq (.inl (by omega))⟩ (fun b R e=>by unfold Old at R;omega));clear r1 I r3)
          all_goals go_roundw
          all_goals first
           | (simp[intOf];omega)
           | exact⟨k+1,af+1,bf,g8,Z9.set l.length (t0,rc),a4++[l.length],_,by omega,by go_num,by rw[List.length_set,c9.out],Hd (by simpa using d0.out),d5,em,Hd ((congrArg (fun i7=>(i7,a4++[l.length])) g6).trans bx.symm),Hd ⟨_,g4⟩,by rw[List.length_set,c9.out];omega,by rw[List.length_set,c9.out];omega,by simp;omega,g7,d3⟩
     ·obtain rfl:k=nr:=by omega
      have fa:Hid (g.Hs T n (l.map (·.2)) a4=some CC):=Hd (by have h:=f9.out;have h2:=dr.out;rw[De (by rw[du.out];omega)]at h2;rw[<-h2]at h;exact h)
      go_wp2_with fail
      go_step3
      refine PV ?_;exact⟨n,Nat.lt_succ_self n,mm,af,a5,ag,_,l,a4,D',a6,fa,dj,by omega,bb,rfl⟩
structure ES(w:World)(B g n c:Nat)(R:List (Value×List Nat)):Prop where
 row:w.ownsRow B 43 1 (.slice (g,0) n c) n (R.map (·.1))
 own:∀(k:Nat) (x:Value×List Nat),R[k]?=some x->w.ownsRow B 3 1 x.1 x.2.length (x.2.map AV)
 apart:∀(i j:Nat) (x y:Value×List Nat),R[i]?=some x->R[j]?=some y->i≠j->∀k,x.1.ownBlock=some k->y.1.ownBlock≠some k
def ES.len{w:World}{B g n c:Nat}{R:List (Value×List Nat)}(h:ES w B g n c R):R.length=n:=by have:=h.row.1;simpa using this
def ES.later{w:World}{B g n c:Nat}{R:List (Value×List Nat)}(h:ES w B g n c R)(i:Below w w w'):ES w' B g n c R:=
 ⟨AS h.row i,fun k x j=>AS (h.own k x j) i,h.apart⟩
def ES.AE{w:World}{B g n c:Nat}{R:List (Value×List Nat)}(h:ES w B g n c R)(i:Aj X w w')(o:¬X g)(l:∀(k:Nat) (x:Value×List Nat),R[k]?=some x->∀b,x.1.ownBlock=some b->¬X b):ES w' B g n c R:=
 ⟨i.own h.row (fun k p=>by cases p;exact o),fun k x j=>i.own (h.own k x j) (l k x j),h.apart⟩
def ES.Ap{w:World}{B g n c:Nat}{R:List (Value×List Nat)}(h:ES w B g n c R):∃i,Ah w g 43 i:=by
 rcases h.row.2 with⟨j,_⟩|⟨o,cap,i,j,p,l,_⟩
 ·cases j
 ·cases j;exact⟨i,l⟩
def ES.put{w o:World}{B g n c:Nat}{R:List (Value×List Nat)}(h:ES w B g n c R)(hW:Below w w W){x:Value×List Nat}(hx:R[s]?=some x){l:List Nat}
  (r1:o.ownsRow B 3 1 nv l.length (l.map AV)) (r2:AI B [3] W o) (r3:W.grownBy o x.1.ownBlock/\(nv.ownBlock=x.1.ownBlock\/nv.ownBlock=some W.heap.size)):ES (o.setCell (g,s) nv) B g n c (R.set s (nv,l)):=by
 have t:=h.later hW;obtain⟨U,a9⟩:=sG.1 hx;have a8:=h.len;obtain⟨a7,a4⟩:=t.Ap;have a2:=r2.Ap a4 (.inr (by decide));have hc:Aj (·=g) o (o.setCell (g,s) nv):=Aj.set (X:=(·=g)) (Aj.refl _ o) (p:=⟨g,s,none⟩) (.inr rfl) _;have a5:=r2.own t.row (.inr (by decide));refine⟨?_,?_,?_⟩
 ·have:=Gu a5 s (by omega) nv
  rw[List.map_set];exact this
 ·intro k y j
  by_cases T:k=s
  ·subst T
   rw[tG U]at j;cases j
   exact hc.own r1 (FL r1 a2 (by decide))
  ·rw[uG (fun e=>T e.symm)]at j
   have a6:=t.own k y j;have a3:o.ownsRow B 3 1 y.1 y.2.length (y.2.map AV):=(Aj.CE r3.1).own a6 (fun b i he=>h.apart s k x y hx j (fun e=>T e.symm) b he i);exact hc.own a3 (FL a3 a2 (by decide))
 ·intro a0 a1 a b ha i P k C I
  have key:∀(m:Nat) (y:Value×List Nat),R[m]?=some y->m≠s->∀k,nv.ownBlock=some k->y.1.ownBlock≠some k:=fun m y j hm k p h2=>by
   rcases r3.2 with e|e
   ·rw[e]at p
    exact h.apart s m x y hx j (fun e=>hm e.symm) k p h2
   ·rw[e]at p
    cases p
    have:=(BY (t.own m y j) _ h2).1;omega
  by_cases J:a0=s
  ·subst J
   rw[tG U]at ha;cases ha
   rw[uG P]at i;exact key a1 b i (fun e=>P e.symm) k C I
  ·rw[uG (fun e=>J e.symm)]at ha
   by_cases hj:a1=s
   ·subst hj
    rw[tG U]at i;cases i
    exact key a0 a ha J k I C
   ·rw[uG (fun e=>hj e.symm)]at i
    exact h.apart a0 a1 a b ha i P k C I
def ES.fresh(w:World){B n:Nat}(p:B<=w.heap.size)(I:n<=100000):ES (w.alloc (.cells (Array.replicate n (.slice none 0 0)) 43)) B w.heap.size n n (List.replicate n (.slice none 0 0,[])):=by
 refine⟨⟨by simp,.inr ⟨w.heap.size,n,_,rfl,p,Ah.new w _ _,AF _,by unfold maxLen;omega,by simp,by simp⟩⟩,fun k x l=>?_,fun i j x y l J C k t=>?_⟩
 ·obtain⟨o,rfl⟩:=sG.1 l
  simp;exact⟨rfl,.inl ⟨rfl,rfl⟩⟩
 ·obtain⟨o,rfl⟩:=sG.1 l
  simp[Value.ownBlock]at t
def MH(l w:World)(g:Gz)(k:Nat)(e:Ending)(w':World):Prop:=∃i,e=.returned (.tuple #[.agg #[.int .i64 ((g.Bo k).1:Nat),i],.bool true])/\BD w' i (g.right k)/\Below w w w'/\(k<g.R.length->BD l i (g.right k))/\(k=g.R.length->∃b,i=.slice (some ⟨b,0,none⟩) 1 1/\w.heap.size<=b/\∃j,Ah w' b 3 j)
def P8{l w:World}{v:Value}{g:Gz}(h:GN l v g)(p:Below l l w){k:Nat}(hk:k<=g.R.length):() 59 #[v,.int .i64 k] w (MH l w g k):=by
 have hf:=h.fit.nr;obtain⟨AT,cT,AN,cN,AR,cR,rfl,T,a1⟩:=h.open_;have J:∀k r,g.R[k]?=some r->∃b off i,AR=some ⟨b,off,none⟩/\b<w.heap.size/\w.cell? ⟨b,off+k*2,none⟩=some (.int .i64 r.1)/\w.cell? ⟨b,off+k*2+1,none⟩=some i/\BD w i r.2/\BD l i r.2:=fun k r j=>by obtain⟨b,off,i,h1,I,h3,h4,R⟩:=T k r j;exact⟨b,off,i,h1,Ba I p.size,(p.cell (p:=⟨b,off+k*2,none⟩) I).trans h3,(p.cell (p:=⟨b,off+k*2+1,none⟩) I).trans h4,R.later p,R⟩
 clear T;by_cases t:k=g.R.length
 ·have o:g.Bo k=(0,[g.s]):=by unfold Gz.Bo;rw[if_pos t]
  unfold MH Gz.right;rw[o];clear h J;generalize g.R.length=nR at *;subst t;generalize g.nt=nt at *;generalize g.nn=nn at *;generalize g.s=C at *;go_enter func59,ntmps59
  go_wp2_with fail
  refine bodyPost_ret (M7 rfl rfl (Nk (b:=w.heap.size+1) (u:=.int .i64 0) (rv:=.slice (w.heap.size+1+1,0) 1 1) ?_ ?_)) rfl ?_
  ·exact(Ah.alloc (Ah.newAt (by simp)) _).cell 0
  ·exact(Ah.alloc (Ah.newAt (by simp)) _).cell 1
  ·refine⟨_,rfl,?_,((AG w _).alloc (by simp) _).alloc (by simp;omega) _,fun h=>absurd h (Nat.lt_irrefl _),fun _=>⟨_,rfl,by omega,_,Ah.newAt (by simp)⟩⟩
   refine Hu (B:=0) (l:=[C]) ?_ (by simp);refine⟨rfl,.inr ⟨w.heap.size+1+1,1,#[C],rfl,AX _,?_,by simp,by decide,rfl,rfl⟩⟩;exact Ah.newAt (by simp)
 ·obtain⟨r,j⟩:∃r,g.R[k]?=some r:=⟨_,eG (by omega)⟩
  obtain⟨b,off,i,rfl,hb,c0,c1,P,U⟩:=J k r j;have o:g.Bo k=r:=by unfold Gz.Bo;rw[if_neg t,dG,j];rfl
  unfold MH Gz.right;rw[o];have HN:=Hd P;have a0:=Hd U;obtain⟨⟨ra,rc,rfl,-⟩,-,-⟩:=id P;have a2:k<g.R.length:=by omega
  clear h J P j o U;obtain⟨rl,rr⟩:=r;simp only at *;generalize rr.length=rn at *;generalize g.R.length=nR at *;generalize g.nt=nt at *;generalize g.nn=nn at *;generalize g.s=C at *;go_enter func59,ntmps59
  go_wp2_with fail
  refine bodyPost_ret (M7 rfl rfl (Nk (b:=w.heap.size+1) (u:=.int .i64 rl) (rv:=.slice ra rn rc) ?_ ?_)) rfl ?_
  ·exact(Ah.newAt (by simp)).cell 0
  ·exact(Ah.newAt (by simp)).cell 1
  ·exact⟨_,rfl,HN.later (((AG w _).alloc (by simp) _)),((AG w _).alloc (by simp) _),fun _=>a0,fun h=>absurd h t⟩
def MT:El Tryz.prog 78 43 1 24:=El.of (z:=.slice none 0 0) underlying78 (by kernel_rfl) rfl (by decide)
def kW:El Tryz.prog 247 252 2 16:=El.of (z:=.agg #[.pointer none,.bool false]) underlying247 (by kernel_rfl) rfl (by decide)
def aO:El Tryz.prog 204 247 1 24:=El.of (z:=.slice none 0 0) underlying204 (by kernel_rfl) rfl (by decide)
abbrev EB(v t rv tlv I l j i o p:Value):Array Value:=v.cells++#[t,rv,tlv,I,l,j,i,o,p]
def Gz.GV(g:Gz)(k s:Nat):List Nat:=(List.range k).filter fun i=>(g.R.getD i (0,[])).1==s
def WR(g:Gz)(s:Nat):g.GV g.R.length s=g.CD s:=rfl
def Sn(g:Gz)(k s:Nat):g.GV (k+1) s=if (g.R.getD k (0,[])).1=s then g.GV k s++[k] else g.GV k s:=by
 unfold Gz.GV;rw[List.range_succ,List.filter_append];by_cases h:(g.R.getD k (0,[])).1=s
 ·have i:((g.R.getD k (0,[])).1==s)=true:=beq_iff_eq.2 h
  rw[if_pos h];simp only[List.filter_cons,i,List.filter_nil,if_true]
 ·have i:((g.R.getD k (0,[])).1==s)=false:=beq_false_of_ne h
  rw[if_neg h];simp only[List.filter_cons,i,List.filter_nil,Bool.false_eq_true,if_false,List.append_nil]
def Zt(g:Gz)(k s:Nat):(g.GV k s).length<=k:=by unfold Gz.GV;have:=List.length_filter_le (fun i=>(g.R.getD i (0,[])).1==s) (List.range k);rwa [List.length_range]at this
def jE{g:Gz}{k N:Nat}(I:(g.R.getD k (0,[])).1=s):((List.range N).map (g.GV k)).set s (g.GV k s++[k])=(List.range N).map (g.GV (k+1)):=by
 apply List.ext_getElem?;intro i;rw[List.getElem?_set];by_cases p:s=i
 ·subst p
  rw[if_pos rfl,lM,List.length_range,pG];by_cases l:s<N
  ·rw[if_pos l,List.getElem?_range l,Option.map_some,Sn,if_pos I]
  ·rw[if_neg l,nG (by simp;omega)];rfl
 ·rw[if_neg p,pG,pG]
  cases J:(List.range N)[i]? with
  | none=>rfl
  | some j=>
   have t:j=i:=by obtain⟨P,o⟩:=sG.1 J;rw[List.getElem_range]at o;exact o.symm
   subst t;rw[Option.map_some,Option.map_some,Sn,if_neg (by omega)]
def B9.mono{A:Nat->Prop}{w:World}{v:Value}{l:List Nat}(h:B9 A w v l)(i:∀b,A b->A' b):B9 A' w v l:=⟨h.1,fun b j o=>i b (h.2 b j o)⟩
def Bn.mono{A:Nat->Prop}{w:World}{v:Value}{n sz:Nat}{f':Nat->Nat->Value->Prop}(h:Bn A w v n sz f)(I:∀b,A b->A' b)(U:∀k j x,k<n->j<sz->f k j x->f' k j x):Bn A' w v n sz f':=by obtain⟨o,c,hv,hn,hm,hr⟩:=h;refine⟨o,c,hv,hn,hm,fun k l=>?_⟩;obtain⟨b,off,J,P,a0,hx⟩:=hr k l;refine⟨b,off,J,I b P,a0,fun j i=>?_⟩;obtain⟨x,p,t⟩:=hx j i;exact⟨x,p,U k j x l i t⟩
def Du.mono{A:Nat->Prop}{w:World}{v:Value}{n:Nat}{f:Nat->List Nat}(h:Du A w v n f)(i:∀b,A b->A' b):Du A' w v n f:=Bn.mono h i (fun k j x _ _ l=>l.mono i)
def E9.mono{A:Nat->Prop}{w:World}{v:Value}(h:E9 A w m v l)(i:∀b,A b->A' b):E9 A' w m v l:=Bn.mono h i (fun k j x _ _ p=>by
 split at p
 ·rename_i o
  rw[if_pos o];obtain⟨h,t,I,J,P,U⟩:=p;exact⟨h,t,I,J,i _ P,i _ U⟩
 ·rename_i o
  rw[if_neg o];exact p)
def FQ.mono{A:Nat->Prop}{w:World}{v:Value}{n:Nat}{T:List (List (Nat×Bool))}(h:FQ A w m v n T)(i:∀b,A b->A' b):FQ A' w m v n T:=Bn.mono h i (fun k j x _ _ l=>l.mono i)
def DW.mono{A:Nat->Prop}{w:World}{v:Value}{l:List AU}(h:DW A w m v l)(j:∀b,A b->A' b):DW A' w m v l:=Bn.mono h j (fun k a0 x _ _ i=>by
 split at i
 ·rename_i o
  rw[if_pos o];exact i
 ·rename_i o
  rw[if_neg o];split at i
  ·rename_i p
   rw[if_pos p];obtain⟨h,t,I,J,P,U⟩:=i;exact⟨h,t,I,J,j _ P,j _ U⟩
  ·rename_i p
   rw[if_neg p];exact i)
def E6{w:World}{B:Nat}{size n:Nat}{v:Value}{xs:List Value}(h:w.ownsRow B e size v n xs)(j:∀b cs,Ah w b e cs->¬X b):∀k,v.ownBlock=some k->¬X k:=by
 intro k i;rcases Bi h with⟨rfl,_⟩|⟨b,c,rfl,_,_,_,_,o,l⟩
 ·cases i
 ·cases i
  exact j _ _ l
def Bn.Nl{A:Nat->Prop}{w:World}{B:Nat}{n:Nat}{v:Value}{XS:List Value}(h:w.ownsRow B e 1 v n XS)(U:n<=1000000)(I:∀b,B<=b->b<w.heap.size->A b)(J:∀i x,XS[i]?=some x->f i 0 x):Bn A w v n 1 f:=by
 rcases Bi h with⟨rfl,rfl⟩|⟨b,c,rfl,p,l,t,_,_⟩
 ·exact⟨none,0,rfl,AF _,by omega,fun k P=>by omega⟩
 ·refine⟨_,c,rfl,t,U,fun k P=>⟨b,0,rfl,I b p l,l,fun j hj=>?_⟩⟩
  obtain rfl:j=0:=by omega
  have hl:=h.1;have o:XS[k]?=some (XS[k]'(by omega)):=eG (by omega);refine⟨_,?_,J k _ o⟩;rw[Nat.zero_add,Nat.add_zero,Nat.mul_one,Bh h k (by omega),o]
section
variable {w0 w w':World} {F:Fs} {g:Gz} {E:Nat} {C:List Nat}
def Bx.R7(h:Bx w0 w F g E C)(j:Aj X w w')(I:∀b,X b->w0.heap.size<=b/\∃t cs,Ah w b t cs/\t≠292/\t≠261/\t≠256/\t≠211):Bx w0 w' F g E C:=by
 have key:∀{b:Nat} {t:TypeId} {cs:Array Value},Ah w b t cs->(t=292\/t=261\/t=256\/t=211)->¬X b:=fun i U p=>by
  obtain⟨_,t',a2,l,n1,n2,n3,n4⟩:=I _ p;rcases U with rfl|rfl|rfl|rfl
  ·exact Ah.Bf i l (Ne.symm n1) rfl
  ·exact Ah.Bf i l (Ne.symm n2) rfl
  ·exact Ah.Bf i l (Ne.symm n3) rfl
  ·exact Ah.Bf i l (Ne.symm n4) rfl
 have J:∀{s:AH} {S:Nat},AP w s S->AP w' s S:=fun o=>o.AE j (key o.head (.inr (.inl rfl))) (key o.words (.inr (.inr (.inl rfl))))
 refine⟨⟨j.Ap h.at_.Ap (key h.at_.Ap (.inl rfl)),J h.at_.e,h.at_.en,h.at_.Ia,j.own h.at_.bv (E6 h.at_.bv fun b cs i=>key i (.inr (.inr (.inr rfl)))),j.own h.at_.hv (E6 h.at_.hv fun b cs i=>key i (.inr (.inr (.inr rfl)))),h.at_.top⟩,⟨h.AK.len,h.AK.room,fun a0 a1 P=>J (h.AK.at_ a0 a1 P),h.AK.apart⟩,h.ne,h.new,h.below.trans (j.below h.below.size fun k hk p=>by have:=(I k p).1;omega)⟩
def Bx.BA{j:World}(h:Bx w j F g E C)(i:Below w0 w0 w):Bx w0 j F g E C:=by have o:=i.size;obtain⟨I,J,P,t⟩:=h.new;exact⟨h.at_,h.AK,h.ne,⟨by omega,by omega,by omega,fun p l=>by have:=t p l;omega⟩,i.trans (h.below.mono o)⟩
end
def UH(w0 w wr:World)(k n b:Nat):Prop:=b<w0.heap.size\/(n<k/\w.heap.size<=b/\∃i,Ah wr b 3 i)
def Ko(lo j:Nat)(wr:World)(b:Nat):Prop:=lo<=b/\b<j/\∃t i,Ah wr b t i/\(t=252\/t=261\/t=256)
structure JZ(w0 w wr:World)(F:Fs)(g:Gz)(E:Nat)(C:List Nat)(RV TV:List Value)(T:List (List (Nat×Bool))):Prop where
 below:Below w0 w0 wr
 size:w.heap.size<=wr.heap.size
 base:w0.heap.size<=w.heap.size
 fst:Bx w0 wr F g E C
 Hi:∀(i:Nat) (x:Value),RV[i]?=some x->B9 (UH w0 w wr RV.length g.R.length) wr x (g.right i)
 J3:∀(i:Nat) (x:Value),TV[i]?=some x->E9 (Ko w.heap.size wr.heap.size wr) wr (g.nt+1) x (T.getD i [])
section
variable {w0 w wr w2 w3:World} {F:Fs} {g:Gz} {E:Nat} {C:List Nat} {RV TV:List Value} {T:List (List (Nat×Bool))}
def JZ.BP(h:JZ w0 w wr F g E C RV TV T)(p:Aj X wr w2)(P:∀b,X b->w0.heap.size<=b/\∃t cs,Ah wr b t cs/\t≠292/\t≠261/\t≠256/\t≠211/\t≠252/\(t=3->RV.length<=g.R.length)):JZ w0 w w2 F g E C RV TV T:=by
 have hs:=p.size;have a4:=h.size;refine⟨h.below.trans (p.below h.below.size fun k hk l=>by have:=(P k l).1;omega),by omega,h.base,h.fst.R7 p fun b i=>?_,fun a0 x l=>?_,fun a0 x l=>?_⟩
 ·obtain⟨h1,t,cs,o,n1,n2,n3,n4,_⟩:=P b i
  exact⟨h1,t,cs,o,n1,n2,n3,n4⟩
 ·have no:∀b,UH w0 w wr RV.length g.R.length b->¬X b:=fun b i l=>by
   obtain⟨h1,t,cs,o,_,_,_,_,_,n6⟩:=P b l;rcases i with i|⟨U,a3,J,j⟩
   ·omega
   ·by_cases I:t=3
    ·have:=n6 I;omega
    ·exact Ah.Bf o j I rfl
  refine((h.Hi a0 x l).AE p no).mono fun b i=>?_
  rcases id i with U|⟨U,a3,J,j⟩
  ·exact .inl U
  ·exact .inr ⟨U,a3,J,p.Ap j (no b i)⟩
 ·have no:∀b,Ko w.heap.size wr.heap.size wr b->¬X b:=fun b i l=>by
   obtain⟨h1,t,cs,o,n1,n2,n3,n4,n5,n6⟩:=P b l;obtain⟨_,_,t',J,j,I⟩:=i;rcases I with rfl|rfl|rfl
   ·exact Ah.Bf o j n5 rfl
   ·exact Ah.Bf o j n2 rfl
   ·exact Ah.Bf o j n3 rfl
  refine((h.J3 a0 x l).AE p no).mono fun b i=>?_
  obtain⟨a1,a2,t',J,j,I⟩:=id i;exact⟨a1,by omega,t',J,p.Ap j (no b i),I⟩
def JZ.later(h:JZ w0 w wr F g E C RV TV T)(i:Below wr wr w2):JZ w0 w w2 F g E C RV TV T:=h.BP (X:=fun _=>False) (Aj.AJ i) (fun b i=>i.elim)
structure Cq(w0 w wr:World)(F:Fs)(g:Gz)(E:Nat)(C:List Nat)(rv tlv:Value)(ub uc kr:Nat)(RV TV:List Value)(R:List (Value×List Nat))(T:List (List (Nat×Bool))):Prop where
 CS:JZ w0 w wr F g E C RV TV T
 Hr:wr.ownsRow w 43 1 rv RV.length RV
 AK:ES wr w.heap.size ub (g.top+1) uc R
 lists:R.map (·.2)=(List.range (g.top+1)).map (g.GV kr)
 Hg:wr.ownsRow w 247 1 tlv TV.length TV
 ne:rv.ownBlock≠some ub
variable {rv tlv:Value} {ub uc kr:Nat} {R:List (Value×List Nat)}
def Cq.later(h:Cq w0 w wr F g E C rv tlv ub uc kr RV TV R T)(i:Below wr wr w2):Cq w0 w w2 F g E C rv tlv ub uc kr RV TV R T:=
 ⟨h.CS.later i,AS h.Hr i,h.AK.later i,h.lists,AS h.Hg i,h.ne⟩
def Cq.Uq(h:Cq w0 w wr F g E C rv tlv ub uc kr RV TV R T){mb:Nat}{t:TypeId}(o:Ah wr mb t cs)(h0:w0.heap.size<=mb)(n1:t≠292)(n2:t≠261)(n3:t≠256)(n4:t≠211)(n5:t≠252)(p:t≠3)(I:t≠43)(n8:t≠247)(j:Nat)(u:Value):Cq w0 w (wr.setCell (mb,j) u) F g E C rv tlv ub uc kr RV TV R T:=by
 have l:Aj (·=mb) wr (wr.setCell (mb,j) u):=Aj.set (X:=(·=mb)) (Aj.refl _ wr) (p:=⟨mb,j,none⟩) (.inr rfl) _;have no:∀{b:Nat} {J:TypeId} {cs:Array Value},Ah wr b J cs->t≠J->¬b=mb:=fun i U e=>by subst e;exact Ah.Bf o i U rfl
 refine⟨h.CS.BP l fun b i=>?_,l.own h.Hr (E6 h.Hr fun b cs i=>no i I),h.AK.AE l ?_ (fun k x hx=>E6 (h.AK.own k x hx) fun b cs i=>no i p),h.lists,l.own h.Hg (E6 h.Hg fun b cs i=>no i n8),h.ne⟩
 ·subst i
  exact⟨h0,_,_,o,n1,n2,n3,n4,n5,fun e=>absurd e p⟩
 ·obtain⟨a0,P⟩:=h.AK.Ap
  exact no P I
def Cq.BA(h:Cq w0 w wr F g E C rv tlv ub uc kr RV TV R T){mb:Nat}(i:Ah wr mb 209 cs)(h0:w0.heap.size<=mb)(j:Nat)(u:Value):Cq w0 w (wr.setCell (mb,j) u) F g E C rv tlv ub uc kr RV TV R T:=
 h.Uq i h0 (by decide) (by decide) (by decide) (by decide) (by decide) (by decide) (by decide) (by decide) j u
def Cq.WD(h:Cq w0 w wr F g E C rv tlv ub uc kr RV TV R T)(hk:RV.length<=g.R.length){x:Value}{c:Nat}(r1:w3.ownsRow w 43 1 (.slice A (RV.length+1) c) (RV.length+1) (RV++[x]))(r3:wr.grownBy w3 rv.ownBlock/\((Value.slice A (RV.length+1) c).ownBlock=rv.ownBlock\/(Value.slice A (RV.length+1) c).ownBlock=some wr.heap.size))
  (U:BD wr x (g.right RV.length)) (aa:RV.length<g.R.length->BD w0 x (g.right RV.length)) (ab:RV.length=g.R.length->∃b,x=.slice (some ⟨b,0,none⟩) 1 1/\w.heap.size<=b/\∃cs,Ah wr b 3 cs):Cq w0 w w3 F g E C (.slice A (RV.length+1) c) tlv ub uc kr (RV++[x]) TV R T:=by
 have p:Aj (fun k=>rv.ownBlock=some k) wr w3:=Aj.CE r3.1;have hX:∀b,rv.ownBlock=some b->w0.heap.size<=b/\∃cs,Ah wr b 43 cs:=fun b i=>by
  rcases Bi h.Hr with⟨l,_⟩|⟨b',c',l,o,_,_,_,a1,h3⟩
  ·rw[l]at i;cases i
  ·rw[l]at i
   have e:b'=b:=by simpa [Value.ownBlock] using i
   subst e;exact⟨AW h.CS.base o,a1,h3⟩
 have no:∀{b:Nat} {a2:TypeId} {cs:Array Value},Ah wr b a2 cs->a2≠43->¬rv.ownBlock=some b:=fun i ht e=>by obtain⟨_,cs,o⟩:=hX _ e;exact Ah.Bf i o ht rfl
 have j:=h.CS.BP p fun b i=>by obtain⟨l,cs,o⟩:=hX b i;exact⟨l,_,cs,o,by decide,by decide,by decide,by decide,by decide,fun e=>by cases e⟩
 obtain⟨a1,a7⟩:=h.AK.Ap;refine⟨⟨j.below,j.size,j.base,j.fst,fun a0 y I=>?_,j.J3⟩,by simpa using r1,h.AK.AE p (fun e=>h.ne e) (fun k x U=>E6 (h.AK.own k x U) fun b cs i=>no i (by decide)),h.lists,p.own h.Hg (E6 h.Hg fun b cs i=>no i (by decide)),?_⟩
 ·by_cases hi:a0<RV.length
  ·rw[gL hi]at I
   refine(j.Hi a0 y I).mono fun b i=>?_
   rcases i with i|⟨l,_⟩
   ·exact .inl i
   ·omega
  ·have P:=(sG.1 I).1
   simp at P;obtain rfl:a0=RV.length:=by omega
   simp at I;subst I;rcases Nat.lt_or_ge RV.length g.R.length with a8|ad
   ·have h0:=aa a8
    refine⟨h0.later j.below,fun b i P=>.inl ?_⟩;obtain⟨⟨Ad,c',hv,a6⟩,_,_⟩:=h0;obtain⟨b2,off,a3,ae,_⟩:=a6 0 _ (eG P);rw[hv,a3]at i;have e:b2=b:=by simpa [Value.ownBlock] using i
    omega
   ·obtain⟨b,rfl,a4,cs,J⟩:=ab (by omega)
    have a5:=p.Ap J (no J (by decide));have a9:B9 (fun q=>q=b) wr (.slice (some ⟨b,0,none⟩) 1 1) (g.right RV.length):=⟨U,fun q t _=>by
     have e:b=q:=by simpa [Value.ownBlock] using t
     exact e.symm⟩
    refine(a9.AE p fun q t=>by subst t;exact no J (by decide)).mono fun q t=>?_
    subst t;exact .inr ⟨by simp;omega,a4,cs,a5⟩
 ·rcases r3.2 with e|e
  ·rw[e];exact h.ne
  ·rw[e]
   intro e2;have e3:wr.heap.size=ub:=by simpa using e2
   have:=a7.lt;omega
def Cq.jZ(h:Cq w0 w wr F g E C rv tlv ub uc kr RV TV R T)(U:RV.length<=g.R.length){x:Value×List Nat}(hx:R[s]?=some x)(hs:(g.R.getD kr (0,[])).1=s)(hW:Below wr wr W)
  (r1:w3.ownsRow w 3 1 nv (x.2.length+1) (x.2.map AV++[.int .i64 (kr:Nat)])) (r2:AI w [3] W w3) (r3:W.grownBy w3 x.1.ownBlock/\(nv.ownBlock=x.1.ownBlock\/nv.ownBlock=some W.heap.size)):∃R',Cq w0 w (w3.setCell (ub,s) nv) F g E C rv tlv ub uc (kr+1) RV TV R' T:=by
 have p:=h.later hW;have I:Aj (fun k=>x.1.ownBlock=some k) W w3:=Aj.CE r3.1;have a5:=p.AK.own s x hx;have hX:∀b,x.1.ownBlock=some b->w0.heap.size<=b/\∃j,Ah W b 3 j:=fun b i=>by
  rcases Bi a5 with⟨t,_⟩|⟨b',c',t,l,_,_,_,J,o⟩
  ·rw[t]at i;cases i
  ·rw[t]at i
   have e:b'=b:=by simpa [Value.ownBlock] using i
   subst e;exact⟨AW h.CS.base l,J,o⟩
 have no:∀{b:Nat} {a3:TypeId} {j:Array Value},Ah W b a3 j->a3≠3->¬x.1.ownBlock=some b:=fun i ht e=>by obtain⟨_,j,l⟩:=hX _ e;exact Ah.Bf i l ht rfl
 have hf:=p.CS.BP I fun b i=>by obtain⟨t,j,l⟩:=hX b i;exact⟨t,_,j,l,by decide,by decide,by decide,by decide,by decide,fun _=>U⟩
 have a4:=h.AK.put hW hx (nv:=nv) (l:=x.2++[kr]) (by rw[B8,By];exact r1) r2 r3;obtain⟨J,a0⟩:=p.AK.Ap;have a7:w.heap.size<=ub:=(BY h.AK.row ub rfl).2;have a1:Ah w3 ub 43 J:=I.Ap a0 (no a0 (by decide));have P:Aj (·=ub) w3 (w3.setCell (ub,s) nv):=Aj.set (X:=(·=ub)) (Aj.refl _ w3) (p:=⟨ub,s,none⟩) (.inr rfl) _;have a6:=I.own p.Hr (E6 p.Hr fun b j i=>no i (by decide));have a2:=I.own p.Hg (E6 p.Hg fun b j i=>no i (by decide));refine⟨R.set s (nv,x.2++[kr]),hf.BP P fun b i=>?_,P.own a6 (fun k U e=>h.ne (by rw[U,e])),a4,?_,P.own a2 (E6 a2 fun b j i e=>by subst e;exact Ah.Bf i a1 (by decide) rfl),h.ne⟩
 ·subst i
  have:=h.CS.base;exact⟨by omega,_,_,a1,by decide,by decide,by decide,by decide,by decide,fun e=>by cases e⟩
 ·have l:x.2=g.GV kr s:=by
   have o:(R.map (·.2))[s]?=some x.2:=by rw[pG,hx];rfl
   rw[h.lists,pG]at o;cases hq:(List.range (g.top+1))[s]? with
   | none=>rw[hq]at o;cases o
   | some a8=>rw[hq]at o;obtain⟨h4,h5⟩:=sG.1 hq;rw[List.getElem_range]at h5;subst h5;simpa using o.symm
  rw[List.map_set,h.lists,<-jE hs,l]
def Cq.L3(h:Cq w0 w wr F g E C rv tlv ub uc kr RV TV R T){x:Value}{c:Nat}(r1:w3.ownsRow w 247 1 (.slice A (TV.length+1) c) (TV.length+1) (TV++[x]))(r3:wr.grownBy w3 tlv.ownBlock)
  (hx:E9 (Ko w.heap.size wr.heap.size wr) wr (g.nt+1) x l) (hT:T.length=TV.length):Cq w0 w w3 F g E C rv (.slice A (TV.length+1) c) ub uc kr RV (TV++[x]) R (T++[l]):=by
 have o:Aj (fun k=>tlv.ownBlock=some k) wr w3:=Aj.CE r3;have hX:∀b,tlv.ownBlock=some b->w0.heap.size<=b/\∃j,Ah wr b 247 j:=fun b i=>by
  rcases Bi h.Hg with⟨t,_⟩|⟨b',c',t,I,_,_,_,a4,h3⟩
  ·rw[t]at i;cases i
  ·rw[t]at i
   have e:b'=b:=by simpa [Value.ownBlock] using i
   subst e;exact⟨AW h.CS.base I,a4,h3⟩
 have no:∀{b:Nat} {a6:TypeId} {j:Array Value},Ah wr b a6 j->a6≠247->¬tlv.ownBlock=some b:=fun i P e=>by obtain⟨_,j,I⟩:=hX _ e;exact Ah.Bf i I P rfl
 have p:=h.CS.BP o fun b i=>by obtain⟨t,j,I⟩:=hX b i;exact⟨t,_,j,I,by decide,by decide,by decide,by decide,by decide,fun e=>by cases e⟩
 obtain⟨a4,a7⟩:=h.AK.Ap;refine⟨⟨p.below,p.size,p.base,p.fst,p.Hi,fun a0 y U=>?_⟩,o.own h.Hr (E6 h.Hr fun b j i=>no i (by decide)),h.AK.AE o (no a7 (by decide)) (fun k x hx=>E6 (h.AK.own k x hx) fun b j i=>no i (by decide)),h.lists,by simpa using r1,h.ne⟩;by_cases hi:a0<TV.length
 ·rw[gL hi]at U
  rw[dG,gL (by omega),<-dG];exact p.J3 a0 y U
 ·have hl:=(sG.1 U).1
  simp at hl;obtain rfl:a0=TV.length:=by omega
  simp at U;subst U;rw[dG,<-hT];simp only[List.getElem?_concat_length,Option.getD_some];have a5:∀b,Ko w.heap.size wr.heap.size wr b->¬tlv.ownBlock=some b:=fun b i=>by
   obtain⟨_,_,t',a3,J,P⟩:=i;rcases P with rfl|rfl|rfl
   ·exact no J (by decide)
   ·exact no J (by decide)
   ·exact no J (by decide)
  have hs:=o.size;refine(hx.AE o a5).mono fun b i=>?_
  obtain⟨a1,a2,t',a3,J,P⟩:=id i;exact⟨a1,by omega,t',a3,o.Ap J (a5 b i),P⟩
def Hm(w0 w wr:World)(b:Nat):Prop:=(b<w0.heap.size\/w.heap.size<=b)/\b<wr.heap.size
def Cq.done(h:Cq w0 w wr F g E C rv tlv ub uc g.R.length RV TV R T)(h1:RV.length=g.R.length+1)(h2:TV.length=g.R.length+1)(hn:g.R.length<=300)(ht:g.top<=1000) :
  Du (Hm w0 w wr) wr rv (g.R.length+1) g.right/\FQ (Hm w0 w wr) wr (g.nt+1) tlv (g.R.length+1) T/\Du (Hm w0 w wr) wr (.slice (ub,0) (g.top+1) uc) (g.top+1) g.CD:=by
 have o:∀b,w.heap.size<=b->b<wr.heap.size->Hm w0 w wr b:=fun b I J=>⟨.inr I,J⟩
 have r1:=h.Hr;have r2:=h.Hg;rw[h1]at r1;rw[h2]at r2;have a1:=h.CS.below.size;refine⟨Bn.Nl r1 (by omega) o fun i x l=>(h.CS.Hi i x l).mono fun b j=>?_,Bn.Nl r2 (by omega) o fun i x l=>(h.CS.J3 i x l).mono fun b j=>o b j.1 j.2.1,Bn.Nl h.AK.row (by omega) o fun i x l=>?_⟩
 ·rcases j with j|⟨_,j,cs,a0⟩
  ·exact⟨.inl j,by omega⟩
  ·exact o b j a0.lt
 ·rw[pG]at l
  cases t:R[i]? with
  | none=>rw[t]at l;cases l
  | some y=>
   rw[t]at l;cases l
   have ho:=h.AK.own i y t;have p:(R.map (·.2))[i]?=some y.2:=by rw[pG,t];rfl
   rw[h.lists,pG]at p;have P:y.2=g.CD i:=by
    cases U:(List.range (g.top+1))[i]? with
    | none=>rw[U]at p;cases p
    | some a3=>rw[U]at p;obtain⟨P,h5⟩:=sG.1 U;rw[List.getElem_range]at h5;subst h5;rw[<-WR];simpa using p.symm
   have a2:y.2.length<=300:=by rw[P];exact AW (LY g i) hn
   show B9 _ wr y.1 (g.CD i);rw[<-P];refine⟨Hu ho (by omega),fun b j _=>?_⟩;obtain⟨I,J⟩:=BY ho b j;exact o b J I
end
variable{T:List TypeId}
def O9:El Tryz.prog 207 264 4 32:=El.of (z:=.agg #[.int .i64 0,.int .i64 0,.pointer none,.bool false]) underlying207 (by kernel_rfl) rfl (by decide)
def YM:El Tryz.prog 270 272 2 16:=El.of (z:=.agg #[.int .i64 0,.int .i64 0]) underlying270 (by kernel_rfl) rfl (by decide)
structure EW(w:World)(B1 B g n c:Nat)(R:List (Value×List It)):Prop where
 row:w.ownsRow B1 270 1 (.slice (g,0) n c) n (R.map (·.1))
 own:∀(k:Nat) (x:Value×List It),R[k]?=some x->w.ownsRow B 272 2 x.1 x.2.length (x.2.flatMap Bc)
 apart:∀(i j:Nat) (x y:Value×List It),R[i]?=some x->R[j]?=some y->i≠j->∀k,x.1.ownBlock=some k->y.1.ownBlock≠some k
variable{w:World}{B i:Nat}{R:List (Value×List It)}{x:It}
def EW.len{g n c:Nat}(h:EW w i B g n c R):R.length=n:=by have:=h.row.1;simpa using this
def EW.later{g n c:Nat}(h:EW w i B g n c R)(j:Below w w w'):EW w' i B g n c R:=
 ⟨AS h.row j,fun k x l=>AS (h.own k x l) j,h.apart⟩
def EW.AE{g n c:Nat}(h:EW w i B g n c R)(j:Aj X w w')(p:¬X g)(o:∀(k:Nat) (x:Value×List It),R[k]?=some x->∀b,x.1.ownBlock=some b->¬X b):EW w' i B g n c R:=
 ⟨j.own h.row (fun k t=>by cases t;exact p),fun k x l=>j.own (h.own k x l) (o k x l),h.apart⟩
def EW.Ap{l g n c:Nat}(h:EW w l B g n c R):∃i,Ah w g 270 i:=by
 rcases h.row.2 with⟨j,_⟩|⟨p,cap,i,j,t,o,_⟩
 ·cases j
 ·cases j;exact⟨i,o⟩
def EW.put{w3:World}{B1 g n c:Nat}(h:EW w B1 B g n c R)(hW:Below w w W){x:Value×List It}(hx:R[s]?=some x){l:List It}
  (r1:w3.ownsRow B 272 2 nv l.length (l.flatMap Bc)) (r2:AI B [272] W w3) (r3:W.grownBy w3 x.1.ownBlock/\(nv.ownBlock=x.1.ownBlock\/nv.ownBlock=some W.heap.size)):EW (w3.setCell (g,s) nv) B1 B g n c (R.set s (nv,l)):=by
 have p:=h.later hW;obtain⟨U,a9⟩:=sG.1 hx;have a8:=h.len;obtain⟨a7,a4⟩:=p.Ap;have a2:=r2.Ap a4 (.inr (by decide));have hc:Aj (·=g) w3 (w3.setCell (g,s) nv):=Aj.set (X:=(·=g)) (Aj.refl _ w3) (p:=⟨g,s,none⟩) (.inr rfl) _;have a5:=r2.own p.row (.inr (by decide));refine⟨?_,?_,?_⟩
 ·have:=Gu a5 s (by omega) nv
  rw[List.map_set];exact this
 ·intro k y j
  by_cases T:k=s
  ·subst T
   rw[tG U]at j;cases j
   exact hc.own r1 (FL r1 a2 (by decide))
  ·rw[uG (fun e=>T e.symm)]at j
   have a6:=p.own k y j;have a3:w3.ownsRow B 272 2 y.1 y.2.length (y.2.flatMap Bc):=(Aj.CE r3.1).own a6 (fun b i he=>h.apart s k x y hx j (fun e=>T e.symm) b he i);exact hc.own a3 (FL a3 a2 (by decide))
 ·intro a0 a1 a b ha i J k t C
  have key:∀(m:Nat) (y:Value×List It),R[m]?=some y->m≠s->∀k,nv.ownBlock=some k->y.1.ownBlock≠some k:=fun m y j hm k o h2=>by
   rcases r3.2 with e|e
   ·rw[e]at o
    exact h.apart s m x y hx j (fun e=>hm e.symm) k o h2
   ·rw[e]at o
    cases o
    have:=(BY (p.own m y j) _ h2).1;omega
  by_cases I:a0=s
  ·subst I
   rw[tG U]at ha;cases ha
   rw[uG J]at i;exact key a1 b i (fun e=>J e.symm) k t C
  ·rw[uG (fun e=>I e.symm)]at ha
   by_cases hj:a1=s
   ·subst hj
    rw[tG U]at i;cases i
    exact key a0 a ha I k C t
   ·rw[uG (fun e=>hj e.symm)]at i
    exact h.apart a0 a1 a b ha i J k t C
def AI.AE(h:AI B T w w'):Aj (fun b=>B<=b) w w':=⟨h.os,h.tape,h.output,h.size,fun k i j=>h.block k i (.inl (by omega))⟩
def XL(mb fb z:Nat)(b:Nat):Prop:=b=mb\/b=fb\/z<=b
def Sx(mb fb z:Nat)(b:Nat):Prop:=b<z/\b≠mb/\b≠fb
def Sx.no{mb fb z b:Nat}(h:Sx mb fb z b):¬XL mb fb z b:=by
 obtain⟨l,i,j⟩:=h;rintro(e|e|e)
 ·exact i e
 ·exact j e
 ·omega
def hV(h:Option AH):Value:=match h with|none=>.pointer none|some s=>s.v
def DD(z:Option AH×Edge):List Value:=[.int .i64 (z.2.dst:Nat),.int .i64 (z.2.at_:Nat),hV z.1,.bool z.2.self]
def Co(w:World)(m:Nat)(P:List AH)(h:Option AH)(S:Nat):Prop:=match h with|none=>S=0|some s=>AP w s S/\s.n=m/\∀p∈P,s.wb≠p.wb
theorem Co.later{P:List AH}{S:Nat}(k:Co w m P h S)(i:Below w w w'):Co w' m P h S:=by
 cases h with
 | none=>exact k
 | some s=>exact⟨k.1.later i,k.2⟩
theorem Co.keeps{P:List AH}{S:Nat}(k:Co w m P h S)(l:AI B T w w')(i:261 ∉ T)(j:256 ∉ T):Co w' m P h S:=by
 cases h with
 | none=>exact k
 | some s=>exact⟨k.1.keeps l i j,k.2⟩
theorem Co.push{P:List AH}{S:Nat}(k:Co w m P h S)(j:Below w w w')(o:w.heap.size<=t.wb):Co w' m (P++[t]) h S:=by
 cases h with
 | none=>exact k
 | some s=>
  refine⟨k.1.later j,k.2.1,fun p l=>?_⟩;rcases mA.1 l with i|i
  ·exact k.2.2 p i
  ·rw[mS.1 i]
   have:=k.1.words.lt;omega
structure Mk(w1 w3 wr:World)(mb fb n c:Nat)(v lv rv tlv uv cv bv av ev:Value)(g:Gz)(base:List Nat)(P:List AH)(S:List Nat)(ED:List (Option AH×Edge))(FR:List (Value×List It)):Prop where
 below:Below w1 w1 wr
 vf:∃x0 x1 x2 x3,v=.agg #[x0,x1,x2,x3]
 lo:w1.heap.size<=mb/\w1.heap.size<=fb/\w1.heap.size<=w3.heap.size
 AE:Aj (XL mb fb w3.heap.size) w3 wr
 Ap:Ah wr mb 209 (EB v lv rv tlv uv cv bv av ev (.slice (fb,0) n c))
 F8:wr.ownsRow w3 3 1 bv base.length (base.map AV)
 all:wr.ownsRow w3 211 1 av P.length (P.map AH.v)
 AK:Bw wr (g.nt+1) P S
 new:∀p∈P,w3.heap.size<=p.h/\w3.heap.size<=p.wb
 Ez:wr.ownsRow w3 264 4 ev ED.length (ED.flatMap DD)
 JL:∀z∈ED,Co wr (g.nt+1) P z.1 z.2.set
 fin:EW wr w1.heap.size w3.heap.size fb n c FR
variable{mb:Nat}{base:List Nat}
section
variable {w1 w3 wr w2 W W2:World} {mb fb n c:Nat} {v lv rv tlv uv cv bv av ev:Value} {g:Gz} {base:List Nat} {P:List AH} {S:List Nat} {ED:List (Option AH×Edge)} {FR:List (Value×List It)}
def Mk.later(h:Mk w1 w3 wr mb fb n c v lv rv tlv uv cv bv av ev g base P S ED FR)(i:Below wr wr w2):Mk w1 w3 w2 mb fb n c v lv rv tlv uv cv bv av ev g base P S ED FR:=
 ⟨h.below.trans (i.mono h.below.size),h.vf,h.lo,h.AE.next (Aj.AJ i),h.Ap.below i h.Ap.lt,AS h.F8 i,AS h.all i,h.AK.later i,h.new,AS h.Ez i,fun z j=>(h.JL z j).later i,h.fin.later i⟩
def EW.keeps{l g n c:Nat}(h:EW wr i B g n c R)(j:AI l T wr w2)(o:272 ∉ T)(p:270 ∉ T):EW w2 i B g n c R:=
 ⟨j.own h.row (.inr p),fun k x t=>j.own (h.own k x t) (.inr o),h.apart⟩
def Mk.BA(h:Mk w1 w3 wr mb fb n c v lv rv tlv uv cv bv av ev g base P S ED FR)(j:Nat)(u:Value):Aj (·=mb) wr (wr.setCell (mb,j) u)/\AI w1 [209] wr (wr.setCell (mb,j) u):=
 ⟨Aj.set (X:=(·=mb)) (Aj.refl _ wr) (p:=⟨mb,j,none⟩) (.inr rfl) _,(AI.refl _ _ wr).EH h.Ap h.lo.1 (by simp) j u⟩
def Mk.WO(h:Mk w1 w3 wr mb fb n c v lv rv tlv uv cv bv av ev g base P S ED FR)(j:Below wr wr W)(hs:AP W t 0)(hn:t.n=g.nt+1)(U:wr.heap.size<=t.h/\wr.heap.size<=t.wb)
  (r1:W2.ownsRow w3 211 1 (.slice A (P.length+1) c2) (P.length+1) (P.map AH.v++[t.v])) (i:AI w3 [211] W W2) :
  Mk w1 w3 (W2.setCell (mb,10) (.slice A (P.length+1) c2)) mb fb n c v lv rv tlv uv cv bv (.slice A (P.length+1) c2) ev g base (P++[t]) (S++[0]) ED FR/\AI w1 [209,211] wr (W2.setCell (mb,10) (.slice A (P.length+1) c2)) /\
  (∀(q:Option AH) (T:Nat),Co wr (g.nt+1) P q T->Co (W2.setCell (mb,10) (.slice A (P.length+1) c2)) (g.nt+1) (P++[t]) q T):=by
 have p:=h.lo;have hz:=h.AE.size;have l:=h.later j;have J:Ah W2 mb 209 _:=i.Ap l.Ap (.inr (by decide));have o:AI w1 [209] W2 (W2.setCell (mb,10) (.slice A (P.length+1) c2)):=(AI.refl _ _ W2).EH J p.1 (by simp) 10 _;have hc:Aj (·=mb) W2 (W2.setCell (mb,10) (.slice A (P.length+1) c2)):=Aj.set (X:=(·=mb)) (Aj.refl _ W2) (p:=⟨mb,10,none⟩) (.inr rfl) _;have R:∀(q:Option AH) (T:Nat),Co wr (g.nt+1) P q T->Co (W2.setCell (mb,10) (.slice A (P.length+1) c2)) (g.nt+1) (P++[t]) q T:=fun q T hq=>((hq.push j U.2).keeps i (by decide) (by decide)).keeps o (by decide) (by decide)
 have a0:w1.heap.size<=W.heap.size:=l.below.size;refine⟨⟨(l.below.trans ((i.mono p.2.2 (T':=[211]) (fun _ h=>h)).below a0)).setCell (p:=⟨mb,10,none⟩) p.1 _,h.vf,p,(l.AE.next ((i.AE).mono fun b j=>.inr (.inr j))).next (hc.mono fun b j=>.inl j),?_,o.own (i.own l.F8 (.inr (by decide))) (.inr (by decide)),?_,?_,?_,o.own (i.own l.Ez (.inr (by decide))) (.inr (by decide)),fun z hz=>R _ _ (h.JL z hz),(l.fin.keeps i (by decide) (by decide)).keeps o (by decide) (by decide)⟩,?_,R⟩
 ·obtain⟨x0,x1,x2,x3,rfl⟩:=h.vf
  exact J.Be 10 _
 ·rw[By,B8]
  exact o.own (by simpa using r1) (.inr (by decide))
 ·exact((h.AK.push j hs hn U.2).keeps i (by decide) (by decide)).keeps o (by decide) (by decide)
 ·intro a1 hp
  rcases mA.1 hp with I|I
  ·exact h.new a1 I
  ·rw[mS.1 I]
   omega
 ·exact((AI.AJ j).trans (i.mono p.2.2 (fun t C=>by simp at C ⊢;exact .inr C))).trans (o.mono (AF _) (fun t C=>by simp at C ⊢;exact .inl C))
def Mk.iR(h:Mk w1 w3 wr mb fb n c v lv rv tlv uv cv bv av ev g base P S ED FR)(o:Below wr wr W){x:Nat}(U:W2.ownsRow w3 3 1 (.slice A (base.length+1) c2) (base.length+1) (base.map AV++[.int .i64 (x:Nat)]))(j:AI w3 [3] W W2) :
  Mk w1 w3 (W2.setCell (mb,9) (.slice A (base.length+1) c2)) mb fb n c v lv rv tlv uv cv (.slice A (base.length+1) c2) av ev g (base++[x]) P S ED FR/\AI w1 [209,3] wr (W2.setCell (mb,9) (.slice A (base.length+1) c2)):=by
 have p:=h.lo;have i:=h.later o;have I:Ah W2 mb 209 _:=j.Ap i.Ap (.inr (by decide));have l:AI w1 [209] W2 (W2.setCell (mb,9) (.slice A (base.length+1) c2)):=(AI.refl _ _ W2).EH I p.1 (by simp) 9 _;have J:Aj (·=mb) W2 (W2.setCell (mb,9) (.slice A (base.length+1) c2)):=Aj.set (X:=(·=mb)) (Aj.refl _ W2) (p:=⟨mb,9,none⟩) (.inr rfl) _;have R:w1.heap.size<=W.heap.size:=i.below.size;refine⟨⟨(i.below.trans ((j.mono p.2.2 (T':=[3]) (fun _ h=>h)).below R)).setCell (p:=⟨mb,9,none⟩) p.1 _,h.vf,p,(i.AE.next ((j.AE).mono fun b o=>.inr (.inr o))).next (J.mono fun b o=>.inl o),?_,?_,l.own (j.own i.all (.inr (by decide))) (.inr (by decide)),(i.AK.keeps j (by decide) (by decide)).keeps l (by decide) (by decide),h.new,l.own (j.own i.Ez (.inr (by decide))) (.inr (by decide)),fun z T=>((i.JL z T).keeps j (by decide) (by decide)).keeps l (by decide) (by decide),(i.fin.keeps j (by decide) (by decide)).keeps l (by decide) (by decide)⟩,?_⟩
 ·obtain⟨x0,x1,x2,x3,rfl⟩:=h.vf
  exact I.Be 9 _
 ·rw[By,B8]
  exact l.own U (.inr (by decide))
 ·exact((AI.AJ o).trans (j.mono p.2.2 (fun t C=>by simp at C ⊢;exact .inr C))).trans (l.mono (AF _) (fun t C=>by simp at C ⊢;exact .inl C))
def Mk.LF(h:Mk w1 w3 wr mb fb n c v lv rv tlv uv cv bv av ev g base P S ED FR)(o:Below wr wr W){x:Option AH×Edge}(T:Co wr (g.nt+1) P x.1 x.2.set)(r1:W2.ownsRow w3 264 4 (.slice A (ED.length+1) c2) (ED.length+1) (ED.flatMap DD++DD x))(i:AI w3 [264] W W2) :
  Mk w1 w3 (W2.setCell (mb,11) (.slice A (ED.length+1) c2)) mb fb n c v lv rv tlv uv cv bv av (.slice A (ED.length+1) c2) g base P S (ED++[x]) FR/\AI w1 [209,264] wr (W2.setCell (mb,11) (.slice A (ED.length+1) c2)):=by
 have p:=h.lo;have j:=h.later o;have I:Ah W2 mb 209 _:=i.Ap j.Ap (.inr (by decide));have l:AI w1 [209] W2 (W2.setCell (mb,11) (.slice A (ED.length+1) c2)):=(AI.refl _ _ W2).EH I p.1 (by simp) 11 _;have J:Aj (·=mb) W2 (W2.setCell (mb,11) (.slice A (ED.length+1) c2)):=Aj.set (X:=(·=mb)) (Aj.refl _ W2) (p:=⟨mb,11,none⟩) (.inr rfl) _;have R:w1.heap.size<=W.heap.size:=j.below.size;refine⟨⟨(j.below.trans ((i.mono p.2.2 (T':=[264]) (fun _ h=>h)).below R)).setCell (p:=⟨mb,11,none⟩) p.1 _,h.vf,p,(j.AE.next ((i.AE).mono fun b o=>.inr (.inr o))).next (J.mono fun b o=>.inl o),?_,l.own (i.own j.F8 (.inr (by decide))) (.inr (by decide)),l.own (i.own j.all (.inr (by decide))) (.inr (by decide)),(j.AK.keeps i (by decide) (by decide)).keeps l (by decide) (by decide),h.new,?_,?_,(j.fin.keeps i (by decide) (by decide)).keeps l (by decide) (by decide)⟩,?_⟩
 ·obtain⟨x0,x1,x2,x3,rfl⟩:=h.vf
  exact I.Be 11 _
 ·rw[List.flatMap_append,B8]
  exact l.own (by simpa using r1) (.inr (by decide))
 ·intro z U
  rcases mA.1 U with C|C
  ·exact((j.JL z C).keeps i (by decide) (by decide)).keeps l (by decide) (by decide)
  ·rw[mS.1 C]
   exact((T.later o).keeps i (by decide) (by decide)).keeps l (by decide) (by decide)
 ·exact((AI.AJ o).trans (i.mono p.2.2 (fun a0 t=>by simp at t ⊢;exact .inr t))).trans (l.mono (AF _) (fun a0 t=>by simp at t ⊢;exact .inl t))
def Mk.ended(h:Mk w1 w3 wr mb fb n c v lv rv tlv uv cv bv av ev g base P S ED FR)(l:Below wr wr W){y:Value×List It}(T:FR[s]?=some y)(r1:W2.ownsRow w3 272 2 (.slice A (y.2.length+1) c2) (y.2.length+1) (y.2.flatMap Bc++Bc x))(i:AI w3 [272] W W2)(r3:W.grownBy W2 y.1.ownBlock/\((Value.slice A (y.2.length+1) c2).ownBlock=y.1.ownBlock\/(Value.slice A (y.2.length+1) c2).ownBlock=some W.heap.size)) :
  Mk w1 w3 (W2.setCell (fb,s) (.slice A (y.2.length+1) c2)) mb fb n c v lv rv tlv uv cv bv av ev g base P S ED (FR.set s (.slice A (y.2.length+1) c2,y.2++[x]))/\AI w1 [270,272] wr (W2.setCell (fb,s) (.slice A (y.2.length+1) c2)):=by
 have p:=h.lo;have j:=h.later l;obtain⟨a1,J⟩:=j.fin.Ap;have C:Ah W2 fb 270 _:=i.Ap J (.inr (by decide));have o:AI w1 [270] W2 (W2.setCell (fb,s) (.slice A (y.2.length+1) c2)):=(AI.refl _ _ W2).EH C p.2.1 (by simp) s _;have I:Aj (·=fb) W2 (W2.setCell (fb,s) (.slice A (y.2.length+1) c2)):=Aj.set (X:=(·=fb)) (Aj.refl _ W2) (p:=⟨fb,s,none⟩) (.inr rfl) _;have R:w1.heap.size<=W.heap.size:=j.below.size;refine⟨⟨(j.below.trans ((i.mono p.2.2 (T':=[272]) (fun _ h=>h)).below R)).setCell (p:=⟨fb,s,none⟩) p.2.1 _,h.vf,p,(j.AE.next ((i.AE).mono fun b l=>.inr (.inr l))).next (I.mono fun b l=>.inr (.inl l)),o.Ap (i.Ap j.Ap (.inr (by decide))) (.inr (by decide)),o.own (i.own j.F8 (.inr (by decide))) (.inr (by decide)),o.own (i.own j.all (.inr (by decide))) (.inr (by decide)),(j.AK.keeps i (by decide) (by decide)).keeps o (by decide) (by decide),h.new,o.own (i.own j.Ez (.inr (by decide))) (.inr (by decide)),fun z U=>((j.JL z U).keeps i (by decide) (by decide)).keeps o (by decide) (by decide),?_⟩,?_⟩
 ·exact h.fin.put l T (nv:=.slice A (y.2.length+1) c2) (l:=y.2++[x]) (by rw[B8,List.flatMap_append];simpa using r1) i r3
 ·exact((AI.AJ l).trans (i.mono p.2.2 (fun a0 t=>by simp at t ⊢;exact .inr t))).trans (o.mono (AF _) (fun a0 t=>by simp at t ⊢;exact .inl t))
def Mk.LM{J:List Nat}(h:Mk w1 w3 wr mb fb n c v lv rv tlv uv cv bv av ev g base P S ED FR)(l:Aj (XP P) wr w2)(hf:Bw w2 (g.nt+1) P J):Mk w1 w3 w2 mb fb n c v lv rv tlv uv cv bv av ev g base P J ED FR:=by
 have a0:=h.lo;have I:∀b,XP P b->w3.heap.size<=b/\∃j,Ah wr b 256 j:=fun b i=>by obtain⟨p,C,rfl⟩:=i;obtain⟨a1,T⟩:=h.AK.mem C;exact⟨(h.new p C).2,_,T.words⟩
 have no:∀{b:Nat} {t:TypeId} {j:Array Value},Ah wr b t j->t≠256->¬XP P b:=fun i ht e=>by obtain⟨_,j,R⟩:=I _ e;exact Ah.Bf i R ht rfl
 obtain⟨a2,U⟩:=h.fin.Ap;refine⟨h.below.trans (l.below h.below.size fun k o e=>by have:=(I k e).1;omega),h.vf,a0,h.AE.next (l.mono fun b i=>.inr (.inr (I b i).1)),l.Ap h.Ap (no h.Ap (by decide)),l.own h.F8 (E6 h.F8 fun b j i=>no i (by decide)),l.own h.all (E6 h.all fun b j i=>no i (by decide)),hf,h.new,l.own h.Ez (E6 h.Ez fun b j i=>no i (by decide)),fun z hz=>?_,h.fin.AE l (no U (by decide)) (fun k x hx=>E6 (h.fin.own k x hx) fun b j i=>no i (by decide))⟩;have o:=h.JL z hz;unfold Co at o ⊢;split
 ·rename_i q
  rw[q]at o;exact o
 ·rename_i s q
  rw[q]at o;obtain⟨a,b,d⟩:=o;refine⟨a.AE l (no a.head (by decide)) ?_,b,d⟩;rintro⟨p,C,e⟩;exact d p C e
end
def UN{l:List It}{j:Nat}(h:l.findIdx? (fun y=>x==y)=some j):l[j]?=some x/\∀i,i<j->l[i]?≠some x:=by
 obtain⟨p,t,C⟩:=List.findIdx?_eq_some_iff_getElem.1 h;refine⟨?_,fun i J e=>?_⟩
 ·rw[eG p]
  have o:x=l[j]:=by simpa using t
  rw[<-o]
 ·have o:=C i J
  obtain⟨P,I⟩:=sG.1 e;rw[I]at o;simp at o
def dJ{lv bv:Value}{E:List (List It)}(c4:w.cell? (mb,4)=some lv)(c9:w.cell? (mb,9)=some bv)(hA:FO w lv V L E)(hB:BD w bv base)(b1:base.length=L.length){r:Nat}(hr:Gz.J4 L base i x=some r)(b4:r<=1000000) :
  () 192 #[(mb,0),i,CH x] w fun e w'=>e=.returned r/\Below w w w':=by
 obtain⟨⟨AL,cL,rfl,av,hc⟩,⟨az,b0⟩,h2,h3,h4⟩:=hA;unfold Gz.J4 at hr;obtain⟨a1,p,a0⟩:=Option.map_eq_some_iff.1 hr;have hi:i<L.length:=by
  rcases Nat.lt_or_ge i L.length with h|h
  ·exact h
  ·rw[dG,nG h]at p
   simp at p
 obtain⟨a2,hl⟩:∃a2,L[i]?=some a2:=⟨_,eG hi⟩
 obtain⟨xv,a6⟩:∃x,V[i]?=some x:=⟨_,eG (by omega)⟩
 obtain⟨bi,a4⟩:∃x,base[i]?=some x:=⟨_,eG (by omega)⟩
 rw[dG,hl]at p;rw[dG,a4]at a0;simp only[Option.getD_some]at p a0;obtain⟨a5,ad⟩:=UN p;have ay:=(sG.1 a5).1;obtain⟨b,off,rfl,hb,c0,c1⟩:=hc i xv a6;obtain⟨⟨Ai,ci,af,aa⟩,au,ar⟩:=h2 i xv a2 a6 hl;rw[af]at c0;obtain⟨⟨AB,cB,ao,a8⟩,_,_⟩:=hB;obtain⟨U,ob,al,an,a9⟩:=a8 i bi a4;subst ao;subst al;have aq:=World.block_lt_of_cell? w _ c4;have aj:=Hd a5;have ak:=Hd ad;have HC:=Hd aa;have HR:=Hd a0;have HK:Hid (∀y,Below w w y->y.cell? (mb,9)=some (.slice (U,ob) base.length cB)/\y.cell? (U,ob+i)=some (.int .i64 (bi:Nat))):=Hd (fun y o=>⟨(o.cell (p:=⟨mb,9,none⟩) aq).trans c9,(o.cell (p:=⟨U,ob+i,none⟩) an).trans a9⟩)
 have aw:(i:Int)<(V.length:Int):=by omega
 have ax:(i:Int)<(base.length:Int):=by omega
 have b3:a1<1000001:=by omega
 obtain⟨j,l⟩:=x;have T:=Hd (Ah.new w 213 #[j,l]);have ai:=Hd (AG w (.cells #[j,l] 213));unfold CH;clear hc h2 h3 hr p a5 ad aa ar a0 hl a6 a4 a8 af au a9 c9 c1;generalize V.length=n at *;generalize base.length=nb at *;go_enter func192,ntmps192
 go_wp2_with fail
 generalize hW:w.alloc (.cells #[j,l] 213)=W at *;generalize ag:w.heap.size=q at *;have HQ:=Hd (And.intro hW ag);clear hW ag;go_loopw [18] (fun ii wr=>∃k:Nat,k<=a1/\ii=.int .i64 k/\Hid (Below W W wr)) (fun ii _=>a1+1-(intOf ii).toNat)
 case atStart=>exact⟨0,AX _,rfl,Hd (Below.refl _ _)⟩
 case round=>
  obtain⟨k,hk,rfl,I⟩:=hrel;obtain⟨⟨t,C⟩,o⟩:∃y,a2[k]?=some y:=⟨_,eG (by omega)⟩
  obtain⟨b2,ah,rfl,a7,d0,d1⟩:=HC k _ o;have J:Hid (Below q w wr):=Hd (ai.trans (I.mono (Nat.le_of_lt T.lt)));obtain⟨k9,kb⟩:=HK wr J;have a3:=Hd (T.below I T.lt);have x0:wr.cell? (q,0)=some (.int .i64 j):=Ah.cell a3 0;have x1:wr.cell? (q,1)=some (.int .i64 l):=Ah.cell a3 1;have xl:=Ah.lt a3;have ml:mb<wr.heap.size:=World.block_lt_of_cell? wr _ k9;have bl:U<wr.heap.size:=World.block_lt_of_cell? wr _ kb;have heq:=fun z=>UQ (j,l) (t,C) z
  have ab:=fun z op a b=>NN op a b (j,l) (t,C) z
  unfold CH at heq ab;simp only at d0 d1 heq ab;have d0:=(J.cell (p:=⟨b2,ah+k*2,none⟩) a7).trans d0;have d1:=(J.cell (p:=⟨b2,ah+k*2+1,none⟩) a7).trans d1;by_cases ae:k=a1
  ·have R:((j,l):It)=(t,C):=by rw[ae,aj.out]at o;exact Option.some.inj o
   have P:decide (((j,l):It)=(t,C))=true:=decide_eq_true R;rw[P]at heq;have b5:IntKind.i64.wrap ((bi:Int)+(k:Int))=(r:Int):=by have:=HR.out;rw[IntKind.wrap_i64];omega
   clear o P R ae;go_wp2_with fail
   go_ret;exact⟨rfl,by rw[HQ.2];exact J.trans ((AG _ _).mono (by have:=J.size;have:=T.lt;have:=I.size;omega))⟩
  ·have R:¬((j,l):It)=(t,C):=fun e=>ak k (by omega) (by rw[e];exact o)
   have P:decide (((j,l):It)=(t,C))=false:=decide_eq_false R;rw[P]at heq;clear o P R;go_wp2_with fail
   go_roundw
   case rel=>exact⟨k+1,by omega,by go_num,Hd (I.trans ((AG _ _).mono I.size))⟩
   case measure=>simp[intOf];omega
def VW{t:List It}{p:It}(h:t.find? (fun x=>x.1==s)=some p):Dx t s=(p.2:Int):=by unfold Dx;rw[h]
def Yb{r:Nat}(h:Gz.J4 L base i x=some r):i<L.length:=by
 unfold Gz.J4 at h;obtain⟨j,l,_⟩:=Option.map_eq_some_iff.1 h;rcases Nat.lt_or_ge i L.length with h|h
 ·exact h
 ·rw[dG,nG h]at l
  simp at l
def Tp{A:Nat->Prop}{R bv rv:Value}{E:List (List It)}{g:Gz}(c4:w.cell? (mb,4)=some R)(c5:w.cell? (mb,5)=some rv)(c9:w.cell? (mb,9)=some bv)(C:FO w R V L E)(hR:Du A w rv (g.R.length+1) g.right)(hB:BD w bv base)(a8:base.length=L.length){r:Nat}
  (ai:x.1<=g.R.length) (ab:x.2<(g.right x.1).length) (av:x.2<=1000000) (hi:i<L.length) (t:Gz.Hb g L E base i x=some r) (ah:r<=1000000) :
  () 159 #[(mb,0),i,CH x] w fun e w'=>e=.returned r/\Below w w w':=by
 unfold Gz.Hb at t;cases P:(E.getD i []).find? (fun aj=>aj.1==g.next x) with
 | none=>rw[P]at t;cases t
 | some ad=>
  rw[P]at t;simp only at t;have a7:=VW P;have a3:Hid (∀y,Below w w y->() 61 #[R,i,.int .i64 (g.next x)] y fun e w'=>e=.returned ad.2/\Below y y w'):=Hd (fun y j=>by have h:=Tj (C.later j) (i:=i) (s:=g.next x) (by rw[<-C.len.1];exact hi);rw[a7]at h;exact h)
  have a1:=World.block_lt_of_cell? w _ c4;have U:Hid (∀y,Below w w y->() 192 #[(mb,0),ad.2,CH (x.1,x.2+1)] y fun e w'=>e=.returned r/\Below y y w'):=Hd (fun y j=>dJ ((j.cell (p:=⟨mb,4,none⟩) a1).trans c4) ((j.cell (p:=⟨mb,9,none⟩) a1).trans c9) (C.later j) (hB.later j) a8 t ah);obtain⟨bR,oR,cR,Ad,c2,rfl,al,ae,a9⟩:=hR.at_ (k:=x.1) (by omega);obtain⟨s,hs⟩:∃s,(g.right x.1)[x.2]?=some s:=⟨_,eG ab⟩
  have aa:g.next x=s:=by unfold Gz.next;rw[dG,hs];rfl
  rw[aa]at a3;obtain⟨bS,oS,rfl,_,an,af⟩:=a9.at_ hs;have ao:(x.1:Int)<((g.R.length+1:Nat):Int):=by omega
  have aq:(x.1:Int)<(g.R.length:Int)+1:=by omega
  have ar:(x.2:Int)<((g.right x.1).length:Int):=by omega
  have au:IntKind.i64.wrap ((x.2:Int)+1)=(x.2:Int)+1:=by rw[IntKind.wrap_i64];omega
  obtain⟨l,p⟩:=x;simp only at *;generalize (g.right l).length=rl at *;generalize g.R.length=nR at *;have J:=Hd (Ah.new w 213 #[l,p]);have ak:=Hd (AG w (.cells #[l,p] 213));obtain⟨AL,cL,ag⟩:∃A c,R=.slice A V.length c:=by obtain⟨⟨A,c,h,_⟩,_⟩:=C;exact⟨A,c,h⟩
  subst ag;unfold CH at U ⊢;simp only at U;clear P t a7 aa hs C hR hB a9 a8 c9 ai ab hi;generalize V.length=n at *;go_enter func159,ntmps159
  go_upto_region 1 with fail
  have x0:=Ah.cell J 0;have x1:=Ah.cell J 1;have xl:=Ah.lt J;simp at x0 x1 xl;go_quiet (fail)
  go_upto_region 2 with fail
  have o:Hid (Below w w ((w.alloc (.cells #[l,p] 213)).drewN nq)):=Hd ⟨rfl,rfl,rfl,by simp[World.drewN],fun k hk=>Below.heap_alloc _ _ _ hk⟩;have a4:Hid (Ah ((w.alloc (.cells #[l,p] 213)).drewN nq) w.heap.size 213 #[l,p]):=Hd (J.drewN nq);clear x0 x1 xl c5 ae af;generalize (w.alloc (.cells #[l,p] 213)).drewN nq=W at *;have a0:Hid (∀y,Below W W y->y.cell? (mb,4)=some (.slice AL n cL)/\y.cell? (w,0)=some (.int .i64 l)/\y.cell? (w,1)=some (.int .i64 p)):=Hd (fun y j=>by have hb:=a4.below j a4.lt;exact⟨((o.trans (j.mono o.size)).cell (p:=⟨mb,4,none⟩) a1).trans c4,hb.cell 0,hb.cell 1⟩)
  have T:Hid (Below W W W.drew):=Hd ((Below.refl _ W).drew);clear c4
  go_region_held3 (fun v=>v.cell? (mb,4)=some (.slice AL n cL)/\v.cell? (w,0)=some (.int .i64 l)/\v.cell? (w,1)=some (.int .i64 p))
   (first|exact a0 _ T|exact a0 _ I|exact a0 _ a2)
   (first
    | (
     go_at_call 61;refine(a3 W.drew (o.trans (T.mono o.size))).mono ?_;rintro e w3 ⟨rfl,a5⟩
     have I:=Hd (T.trans a5);clear a5)
    | (
     go_at_call 192;refine(U _ (o.trans (I.mono o.size))).mono ?_;rintro e w4 ⟨rfl,a6⟩
     have a2:=Hd (I.trans (a6.mono I.size));clear a6))
  go_wp2_with fail
  go_ret;exact⟨rfl,o.trans (a2.mono o.size)⟩
end Go.Proofs.YtlogpnoioimhjaaGreatDoor
