/- . -/
import Derived.Test.YtiljpamcmmeflaaGreatDoorXar
import Derived.Test.YtiljpamcmmeflaaGreatDoorXao
set_option linter.all false
set_option maxRecDepth 100000
set_option maxHeartbeats 16000000
namespace Go.Proofs.YtiljpamcmmeflaaGreatDoor
open Go.RowKit Go.Proofs.Tryz
open Value renaming slice→nC,int→nE,pointer→nF,bool→nI
open Option renaming some→nJ,none→nK
open IntKind renaming i64→nM
open Obj renaming cells→nO
open Ending renaming returned→nP
open World renaming cell?→nQ
open Go renaming World→nS,Value→nU
variable{c2 s:Nat}{z:AH×AZ}{o r:List Nat}{e:TypeId}{p:List AZ×List Nat}{l:List (Nat×Bool)}{t:AH}{A:Option Addr}{xs:Bool}{out:List AZ}{W w':nS}{A' X:Nat->Prop}{nv:nU}{f:Nat->Nat->nU->Prop}{cs:Array nU}{h:Option AH}{V:List (nU×nU)}{L:List (List It)}
section
open Go.Maps (IsMap Keyed)
def eI:El Tryz.prog 288 301 3 24:=El.of (z:=.agg #[nE nM 0,nF nK,nI false]) underlying288 mU rfl mT
abbrev Gs(w:nS)(mb n:Nat)(D:DataW Unit):Prop:=w.ownsMap Tryz.prog 3 (plainElem Tryz.prog 3) mb n D
def D5(D:DataW Unit)(m:Nat->Option Nat):Prop:=∀s:Nat,(∀j,m s=nJ j->Maps.has D (Cj s)=true/\∀z,D.atKey (Cj s) z=.lit (.int nM (j:Int)))/\(m s=nK->Maps.has D (Cj s)=false/\∀z,D.atKey (Cj s) z=z)
def D5.start:D5 (.map []) (fun _=>nK):=fun s=>⟨(fun j h=>by cases h),fun _=>⟨rfl,fun _=>rfl⟩⟩
def D5.next{D:DataW Unit}{m:Nat->Option Nat}(h:D5 D m)(o:IsMap D)(s j:Nat):D5 (D.put (Cj s) (.lit (.int nM (j:Int)))) (fun a=>if a=s then nJ j else m a):=by
 intro a;by_cases l:a=s
 ·subst l
  refine⟨fun t i=>?_,fun i=>?_⟩
  ·simp only[if_true]at i
   cases i
   exact⟨Maps.has_put_same o (NP _) _,fun z=>Maps.atKey_put_same o (NP _) _ _⟩
  ·simp only[if_true]at i
   cases i
 ·have p:Cj a≠Cj s:=fun e=>l (S6 e)
  simp only[if_neg l,Maps.has_put_other p,Maps.atKey_put_other p];exact h a
def D5.congr{D:DataW Unit}{m i:Nat->Option Nat}(h:D5 D m)(j:∀s,m s=i s):D5 D i:=by have:m=i:=funext j;rw[<-this];exact h
def MK{w:nS}{mb n:Nat}{D:DataW Unit}{m:Nat->Option Nat}(h:Gs w mb n D)(U:D5 D m)(hs:s<=100000) :
  (Instr.lookup 304 (.map (nJ mb)) (nE nM (s:Int)) true).run Tryz.prog w=.ok (.tuple #[nE nM (((m s).getD 0:Nat):Int),nI (m s).isSome]) w:=by
 have T:keyOf Tryz.prog 3 (nE nM (s:Int))=nJ (Cj s):=Maps.keyOf_int_mk underlying3 (WalkArith.wf_i64 mR);have hz:=plainElem_int (H:=Unit) (a:=0) underlying3 (WalkArith.wf_i64 mR);obtain⟨v,ps,C,J⟩:=h.look_ok Mp underlying304 (Ll w) hz T;have I:(Instr.lookup 304 (.map (nJ mb)) (nE nM (s:Int)) true).run Tryz.prog w=.ok (.tuple #[v,nI (Maps.has D (Cj s))]) w:=C;have P:plainElem Tryz.prog 3 v=nJ (D.atKey (Cj s) (.lit (.int nM 0)),ps):=J;obtain⟨c,rfl,R,-⟩:=plainElem_int_inv underlying3 P;have i:D.atKey (Cj s) (.lit (.int nM 0))=.lit (.int nM c):=congrArg Prod.fst R
 rw[I];obtain⟨p,t⟩:=U s;cases o:m s with
 | some a0=>obtain⟨j,l⟩:=p a0 o;rw[l]at i;simp only[DataW.lit.injEq,Lit.int.injEq,true_and]at i;rw[j,<-i];rfl
 | none=>obtain⟨j,l⟩:=t o;rw[l]at i;simp only[DataW.lit.injEq,Lit.int.injEq,true_and]at i;rw[j,<-i];rfl
def MV{w:nS}{mb n:Nat}{D:DataW Unit}(h:Gs w mb n D)(j:n<=10000000){c:Nat}(l:s<=100000)(i:c<=100000) :
  ∃w',(Instr.mapUpdate 304 (.map (nJ mb)) (nE nM (s:Int)) (nE nM (c:Int))).run Tryz.prog w=.ok () w'/\Gs w' mb (n+1) (D.put (Cj s) (.lit (.int nM (c:Int))))/\w.grownBy w' (nJ mb):=
 h.update Mp underlying304 mW (Maps.keyOf_int_mk underlying3 (WalkArith.wf_i64 mR)) (plainElem_int underlying3 (WalkArith.wf_i64 mR))
def FJ(z:AH×AZ):List nU:=[nE nM (z.2.s:Nat),z.1.v,nI z.2.self]
def EN(out:List AZ)(s:Nat):Option Nat:=out.findIdx? (fun c=>c.s==s)
structure CE(w wr:nS)(mm nD ob oc m:Nat)(tv:nU)(Z:List (AH×AZ))(todo:List Nat)(D:DataW Unit):Prop where
 below:Below w w wr
 row:wr.ownsRow w 301 3 (nC (ob,0) Z.length oc) Z.length (Z.flatMap FJ)
 AP:BA wr m (Z.map (·.1)) (Z.map (·.2.set))
 new:∀z∈Z,w.heap.size<=z.1.h/\w.heap.size<=z.1.wb
 Jr:B8 wr w.heap.size 3 1 tv todo.length (todo.map AS)
 map:Gs wr mm nD D
 at_:D5 D (EN (Z.map (·.2)))
 lo:w.heap.size<=mm
 tb:∀i∈todo,i<Z.length
section
variable {w wr w2:nS} {mm nD ob oc m:Nat} {tv:nU} {Z:List (AH×AZ)} {todo:List Nat} {D:DataW Unit}
def CE.later(h:CE w wr mm nD ob oc m tv Z todo D)(i:Below wr wr w2):CE w w2 mm nD ob oc m tv Z todo D:=
 ⟨h.below.trans (i.mono h.below.size),AV h.row i,h.AP.later i,h.new,h.Jr.below i,(Aj.AJ (X:=fun _=>False) i).map h.map id,h.at_,h.lo,h.tb⟩
def CE.cells(h:CE w wr mm nD ob oc m tv Z todo D){j:Nat}(C:Z[j]?=nJ z):nQ wr (ob,j*3)=nJ (nE nM (z.2.s:Nat))/\nQ wr (ob,j*3+1)=nJ z.1.v/\nQ wr (ob,j*3+2)=nJ (nI z.2.self)/\wr.frozen? (ob,j*3+2)=false:=by obtain⟨i,t⟩:=sG.1 C;have l:=CR FJ 3 (fun _=>rfl) Z j 0 i mR;have o:=CR FJ 3 (fun _=>rfl) Z j 1 i mR;have p:=CR FJ 3 (fun _=>rfl) Z j 2 i mR;rw[t,Nat.add_zero]at l;rw[t]at o p;exact⟨by rw[Bb h.row (j*3) mR,l];rfl,by rw[Bb h.row (j*3+1) mR,o];rfl,by rw[Bb h.row (j*3+2) mR,p];rfl,GU h.row _⟩
def CE.Ap(h:CE w wr mm nD ob oc m tv Z todo D):∃i,Ah wr ob 301 i/\w.heap.size<=ob:=by
 rcases h.row.2 with⟨j,_⟩|⟨p,cap,i,j,l,o,_⟩
 ·cases j
 ·cases j;exact⟨i,o,l⟩
def CE.Kw(h:CE w wr mm nD ob oc m tv Z todo D){j:Nat}(i:Z[j]?=nJ z):AU wr z.1 z.2.set/\z.1.n=m:=by have l:=h.AP.at_ j z.1 (by rw[pG,i];rfl);rw[dG,pG,i]at l;exact⟨l,h.AP.room z.1 (List.mem_map.2 ⟨z,mG i,rfl⟩)⟩
def CE.apart(h:CE w wr mm nD ob oc m tv Z todo D){i j:Nat}{y:AH×AZ}(o:Z[i]?=nJ y)(p:Z[j]?=nJ z)(l:i≠j):y.1.wb≠z.1.wb:=by
 intro e;refine l (Uh h.AP.apart (a:=y.1.wb) ?_ ?_)
 ·rw[pG,pG,o];rfl
 ·rw[pG,pG,p,e];rfl
theorem V0(out:List AZ)(j:Nat)(c:AZ)(s:Nat)(h:∀d,out[j]?=nJ d->d.s=c.s):EN (out.set j c) s=EN out s:=by
 unfold EN;induction out generalizing j with
 | nil=>rfl
 | cons a out l=>
  cases j with
  | zero=>have:=h a rfl;rw[List.set_cons_zero,List.findIdx?_cons,List.findIdx?_cons,this]
  | succ j=>rw[List.set_cons_succ,List.findIdx?_cons,List.findIdx?_cons,l j (fun d i=>h d (by simpa using i))]
def XN(out:List AZ)(c:AZ)(h:EN out c.s=nK)(s:Nat):(if s=c.s then nJ out.length else EN out s)=EN (out++[c]) s:=by
 unfold EN at *;rw[List.findIdx?_append];by_cases i:s=c.s
 ·subst i
  rw[if_pos rfl,h];simp
 ·rw[if_neg i]
  have:(c.s==s)=false:=beq_false_of_ne (fun e=>i e.symm);cases out.findIdx? (fun x=>x.s==s)<;>simp[this]
theorem VW(r:List (AH×AZ))(k:Nat)(z:AH×AZ)(S:Nat)(i:r[k]?=nJ z):(r.flatMap FJ).set (k*3+2) (nI true)=(r.set k (z.1,⟨z.2.s,S,true⟩)).flatMap FJ:=by
 induction r generalizing k with
 | nil=>simp at i
 | cons x r l=>
  cases k with
  | zero=>simp at i;subst i;rfl
  | succ k=>
   have j:(k+1)*3+2=k*3+2+3:=by omega
   have h:=l k (by simpa using i);rw[List.flatMap_cons,List.set_cons_succ,List.flatMap_cons,<-h,j];rfl
theorem VE(r:List (AH×AZ))(k:Nat)(z:AH×AZ)(S:Nat)(i:r[k]?=nJ z):(r.set k (z.1,⟨z.2.s,S,z.2.self⟩)).flatMap FJ=r.flatMap FJ:=by
 induction r generalizing k with
 | nil=>simp at i
 | cons x r j=>
  cases k with
  | zero=>simp at i;subst i;rfl
  | succ k=>have h:=j k (by simpa using i);rw[List.set_cons_succ,List.flatMap_cons,List.flatMap_cons,h]
def CE.handed(h:CE w wr mm nD ob oc m tv Z todo D){j:Nat}(o:Z[j]?=nJ z){r:AZ×Bool}(C:r.1.s=z.2.s){e:Ending}(he:SY wr ob (j*3) z.1 z.2.self r e w2):CE w w2 mm nD ob oc m tv (Z.set j (z.1,r.1)) todo D/\Aj (fun k=>k=ob\/k=z.1.wb) wr w2:=by
 obtain⟨-,p,i,hs,hw⟩:=he;obtain⟨a3,a6,ab⟩:=h.Ap;have a1:=h.Kw o;have ad:=h.new z (mG o);have hj:=(sG.1 o).1;have a7:ob≠z.1.wb:=Ah.Bh a6 a1.1.words mT;have P:=i.Ap a6 a7;have aa:=i.own h.row (fun k l e=>by cases l;exact a7 e);have R:(Z.map (·.1))[j]?=nJ z.1:=by rw[pG,o];rfl
 have U:BA p m (Z.map (·.1)) ((Z.map (·.2.set)).set j r.1.set):=h.AP.EL R hs i;have a9:B8 p w.heap.size 3 1 tv todo.length (todo.map AS):=h.Jr.Ay (X:=fun _=>True) (fun g a3 t _=>i.Ap t (fun e=>Ah.Bh t a1.1.words mT e));have a0:=i.map h.map (fun e=>Dr h.map a1.1.words e.symm);have a5:Below w w p:=h.below.trans (i.below h.below.size (fun k l e=>by omega));have e1:(Z.set j (z.1,r.1)).map (·.1)=Z.map (·.1):=by rw[List.map_set];exact T9 R
 have e2:(Z.set j (z.1,r.1)).map (·.2.set)=(Z.map (·.2.set)).set j r.1.set:=by rw[List.map_set]
 have e3:(Z.set j (z.1,r.1)).map (·.2)=(Z.map (·.2)).set j r.1:=by rw[List.map_set]
 have a4:D5 D (EN ((Z.set j (z.1,r.1)).map (·.2))):=h.at_.congr fun s=>by
  rw[e3,V0];intro d hd;rw[pG,o]at hd;cases hd
  exact C.symm
 have a8:∀y∈Z.set j (z.1,r.1),w.heap.size<=y.1.h/\w.heap.size<=y.1.wb:=fun y hy=>by
  rcases List.mem_or_eq_of_mem_set hy with h1|rfl
  ·exact h.new y h1
  ·exact ad
 rcases hw with⟨rfl,I⟩|⟨rfl,I⟩
 ·refine⟨⟨a5,?_,by rw[e1,e2];exact U,a8,a9,a0,a4,h.lo,fun a2 hi=>by rw[List.length_set];exact h.tb a2 hi⟩,i.mono fun k l=>.inr l⟩
  have e4:=VE Z j z r.1.set o;have T:r.1=⟨z.2.s,r.1.set,z.2.self⟩:=by obtain⟨⟨a,b,c⟩,d⟩:=r;simp only at C I ⊢;rw[C,I]
  rw[T,List.length_set,e4];exact aa
 ·have J:Aj (·=ob) p (p.setCell (ob,j*3+2) (nI true)):=Aj.set (X:=(·=ob)) (Aj.refl _ p) (p:=⟨ob,j*3+2,nK⟩) (.inr rfl) _
  refine⟨⟨a5.setCell (p:=⟨ob,j*3+2,nK⟩) ab _,?_,?_,a8,?_,J.map a0 (fun e=>Dr a0 P e.symm),a4,h.lo,fun a2 hi=>by rw[List.length_set];exact h.tb a2 hi⟩,(i.mono fun k l=>.inr l).next (J.mono fun k l=>.inl l)⟩
  ·have T:r.1=⟨z.2.s,r.1.set,true⟩:=by
    obtain⟨⟨a,b,c⟩,d⟩:=r;simp only at C I ⊢;rw[C,I]
   rw[T,List.length_set,<-VW Z j z r.1.set o];exact Gl aa (j*3+2) mR _
  ·rw[e1,e2]
   refine U.Ay J (fun ae R=>?_);obtain⟨S,hS⟩:=U.mem R;exact⟨Ah.Bh hS.head P mT,Ah.Bh hS.words P mT⟩
  ·exact a9.Ay (X:=fun _=>True) (fun g a3 t _=>J.Ap t (fun e=>Ah.Bh t P mT e))
def CE.SF(h:CE w wr mm nD ob oc m tv Z todo D){p:nU}{i:Nat}(t:i<Z.length)(I:B8 w2 w.heap.size 3 1 p (todo.length+1) (todo.map AS++[nE nM i]))(l:AI w [3] wr w2):CE w w2 mm nD ob oc m p Z (todo++[i]) D:=
 ⟨h.below.trans (l.below h.below.size),l.own h.row (.inr mT),h.AP.keeps l mT mT,h.new,by rw[Bz,BS];exact I,l.map h.map,h.at_,h.lo,fun j C=>by
  rcases mA.1 C with o|o
  ·exact h.tb j o
  ·rw[mS.1 o];exact t⟩
def CE.Ln{i:Nat}(h:CE w wr mm nD ob oc m tv Z (i::todo) D){l:nU}(p:B8 wr w.heap.size 3 1 l todo.length (todo.map AS)):CE w wr mm nD ob oc m l Z todo D:=
 ⟨h.below,h.row,h.AP,h.new,p,h.map,h.at_,h.lo,fun j o=>h.tb j (List.mem_cons_of_mem _ o)⟩
def CE.more(h:CE w wr mm nD ob oc m tv Z todo D){y:Nat}(hy:EN (Z.map (·.2)) y=nK){o I:nS}(hm:Gs w2 mm (nD+1) (D.put (Cj y) (.lit (.int nM (Z.length:Nat)))))(hg:wr.grownBy w2 (nJ mm))(i:Below w2 w2 o)(a3:AU o t 0)(hn:t.n=m)(a1:w2.heap.size<=t.h/\w2.heap.size<=t.wb)
   {c:Nat} (T:I.ownsRow w 301 3 (nC A (Z.length+1) c) (Z.length+1) (Z.flatMap FJ++FJ (t,⟨y,0,false⟩))) (l:AI w [301] o I):∃j,A=nJ ⟨j,0,nK⟩/\CE w I mm (nD+1) j c m tv (Z++[(t,⟨y,0,false⟩)]) todo (D.put (Cj y) (.lit (.int nM (Z.length:Nat)))):=by
 obtain⟨j,c',U⟩:=Mh T mR;cases U
 have C:Aj (·=mm) wr w2:=Aj.of_map hg;have a0:BA w2 m (Z.map (·.1)) (Z.map (·.2.set)):=h.AP.Ay C (fun a6 hp=>by obtain⟨S,J⟩:=h.AP.mem hp;exact⟨Dr h.map J.head,Dr h.map J.words⟩)
 have P:Below w w w2:=h.below.trans (C.below h.below.size (fun k hk e=>by have:=h.lo;omega));have a2:=P.size;have R:Below w w o:=P.trans (i.mono a2);refine⟨j,rfl,⟨R.trans (l.below R.size),by rw[List.flatMap_append,BS];simpa using T,?_,?_,?_,l.map ((Aj.AJ (X:=fun _=>False) i).map hm id),?_,h.lo,?_⟩⟩
 ·rw[Bz,Bz]
  exact(a0.push i a3 hn a1.2).keeps l mT mT
 ·intro z hz
  rcases mA.1 hz with p|p
  ·exact h.new z p
  ·rw[mS.1 p];simp only;omega
 ·exact((h.Jr.Ay (X:=fun _=>True) (fun g a5 i _=>C.Ap i (Dr h.map i))).below i).keeps l mT
 ·refine(h.at_.next h.map.isMap y Z.length).congr fun s=>?_
  have:=XN (Z.map (·.2)) ⟨y,0,false⟩ hy s;simp only[lM]at this;rw[this,Bz];rfl
 ·intro a4 hi
  have:=h.tb a4 hi;rw[BS];omega
end
end
variable{m:Nat}
def CE.hand{w wr:nS}{R T p U:Nat}{tv mp:nU}{Z:List (AH×AZ)}{a0:List Nat}{D:DataW Unit}(h:CE w wr R T p U m tv Z a0 D){i j sx S:Nat}{emp:Bool}{x:AH×AZ}{o:AH}(t:Z[i]?=nJ x)(l:Z[j]?=nJ z)(a4:AU wr o S)(hn:o.n=m)(hw:o.wb<w.heap.size) :
  () 218 #[mp,.agg #[sx,x.1.v,nI xs],(p,j*3),.agg #[o.v,nI emp]] wr fun e w'=>e=nP (nI (CD xs x.2.set z.2 (i==j) (S,emp)).2)/\CE w w' R T p U m tv (Z.set j (z.1,(CD xs x.2.set z.2 (i==j) (S,emp)).1)) a0 D/\Aj (fun k=>k=p\/k=z.1.wb) wr w':=by
 obtain⟨a1,a2⟩:=h.Kw t;obtain⟨I,J⟩:=h.Kw l;obtain⟨c0,c1,c2,c3⟩:=h.cells l;obtain⟨a5,a3,a6⟩:=h.Ap;have hz:=h.new z (mG l);have hs:(CD xs x.2.set z.2 (i==j) (S,emp)).1.s=z.2.s:=by
  unfold CD;split
  ·rfl
  ·split
   ·rfl
   ·split<;>rfl
 refine(dN (mp:=mp) (sx:=sx) (s2:=z.2.s) (xs:=xs) (emp:=emp) (own:=i==j) a1 a4 I (a2.trans J.symm) (hn.trans J.symm) ?_ mR c1 c2 c3 (Ah.Bh a3 I.words mT)).mono ?_
 ·by_cases C:i=j
  ·subst C
   rw[t]at l;cases l
   simp
  ·have:(i==j)=false:=beq_false_of_ne C
   rw[this,if_neg mV];exact h.apart t l C
 ·intro e w' P
  have h1:=h.handed l hs P;exact⟨P.1,h1⟩
theorem Gz.Fit.Mn{g:Gz}(h:g.Fit){k x:Nat}(i:x∈g.right k):x<=g.top:=by
 unfold Gz.right Gz.AX at i;split at i
 ·simp at i
  rw[i];exact h.start.2
 ·rw[dG]at i
  cases j:g.R[k]? with
  | none=>rw[j]at i;cases i
  | some r=>rw[j]at i;exact(h.right r (mG j) x i).2
def bM{g:Gz}{T:List (List (Nat×Bool))}{i:Nat}{k:Nat}(h:g.right k=[]):g.FL T i xs p k=p:=by unfold Gz.FL;rw[h]
def mh{g:Gz}{T:List (List (Nat×Bool))}{i:Nat}{k y:Nat}(h:g.right k=y::r)(j:g.BK y=false):g.FL T i xs p k=p:=by unfold Gz.FL;rw[h];simp only;rw[if_pos j]
def gR{g:Gz}{T:List (List (Nat×Bool))}{i:Nat}{k y j:Nat}{ci l:AZ}(h:g.right k=y::r)(I:g.BK y=true)(p:EN out y=nJ j)(C:out[i]?=nJ ci)(t:out[j]?=nJ l):g.FL T i xs (out,o) k=(out.set j (CD xs ci.set l (i==j) (Gz.Gp T k 0)).1,if (CD xs ci.set l (i==j) (Gz.Gp T k 0)).2 then o++[j] else o):=by unfold Gz.FL;rw[h];simp only;rw[if_neg (by rw[I];simp)];unfold EN at p;rw[p];simp only;rw[dG,C,dG,t];rfl
def eQ{g:Gz}{T:List (List (Nat×Bool))}{i:Nat}{k y:Nat}{ci:AZ}(h:g.right k=y::r)(p:g.BK y=true)(l:EN out y=nK)(j:out[i]?=nJ ci):g.FL T i xs (out,o) k=((out++[(⟨y,0,false⟩:AZ)]).set out.length (CD xs ci.set ⟨y,0,false⟩ (i==out.length) (Gz.Gp T k 0)).1,o++[out.length]):=by have t:=(sG.1 j).1;unfold Gz.FL;rw[h];simp only;rw[if_neg (by rw[p];simp)];unfold EN at l;rw[l];simp only;rw[dG,j,show (i==out.length)=false from beq_false_of_ne mR,List.set_append_right _ _ (AF _),Nat.sub_self];rfl
def Po(mb s i l j o:Nat)(tv:nU)(f:Nat->nU):Act:={tmps:=#[nF (nJ ⟨mb,0,nK⟩),nE nM s,f 2,f 3,nC nK 0 0,.map (nJ i),nC (nJ ⟨l,0,nK⟩) j o,tv,f 8,f 9,f 10,f 11,f 12,f 13,f 14,f 15,f 16,f 17,f 18,f 19,f 20,f 21,f 22,f 23,f 24,f 25,f 26,f 27,f 28,f 29,f 30,f 31,f 32,f 33,f 34,f 35,f 36,f 37,f 38,f 39,f 40,f 41,f 42,f 43,f 44,f 45,f 46,f 47,f 48,f 49,f 50,f 51,f 52,f 53,f 54,f 55,f 56,f 57,f 58,f 59,f 60,f 61,f 62,f 63,f 64,f 65,f 66,f 67,f 68,f 69,f 70,f 71,f 72,f 73,f 74,f 75,f 76,f 77,f 78,f 79,f 80,f 81,f 82,f 83,f 84,f 85,f 86,f 87,f 88,f 89,f 90,f 91,f 92,f 93,f 94,f 95,f 96,f 97,f 98,f 99,f 100,f 101,f 102,f 103,f 104,f 105,f 106,f 107,f 108,f 109,f 110,f 111,f 112,f 113,f 114,f 115,f 116,f 117,f 118],defers:=[]}
def YA{w:nS}{mb:Nat}{v rv uv cp:nU}{g:Gz}{T:List (List (Nat×Bool))}{CC:List AZ}(hg:GN w v g)(hm:∀j,j<4->nQ w ⟨mb,j,nK⟩=v.cells[j]?)(c5:nQ w (mb,5)=nJ rv)(c6:nQ w (mb,6)=nJ cp)(c7:nQ w (mb,7)=nJ uv)
  (hR:Dl (Old w.heap.size) w rv (g.R.length+1) g.right) (hU:Dl (Old w.heap.size) w uv (g.top+1) g.CF) (hT:FY (Old w.heap.size) w (g.nt+1) cp (g.R.length+1) T) (e7:∀k,k<=g.R.length->(T.getD k []).length=(g.right k).length) (jg:g.nt<s) (hp:s<=g.top) (hc:g.JB T s=nJ CC) :
  () 191 #[(mb,0),s] w fun e w'=>∃cv,e=nP cv/\DZ (fun b=>w.heap.size<=b/\b<w'.heap.size) w' (g.nt+1) cv CC/\Below w w w':=by
 have bn:=hg.fit;have h1:=bn.nt;have j8:=bn.nn;have gz:=bn.nr;have j6:∀y:nS,(Instr.makeMap 304 nK).run Tryz.prog y=.ok (.map (nJ y.heap.size)) (y.alloc (.map #[] 0)):=fun y=>by kernel_rfl
 obtain⟨AT,cT,AN,cN,AR,cR,rfl,-,-⟩:=hg.open_;have di:mb<w.heap.size:=World.block_lt_of_cell? w _ (hm 0 mR);have HC:Hid (∀y,Below w w y->nQ y (mb,0)=nJ (nC AT g.nt cT)/\nQ y (mb,1)=nJ (nC AN g.nn cN)/\nQ y (mb,2)=nJ (nC AR g.R.length cR)/\nQ y (mb,3)=nJ (nE nM g.s)/\nQ y (mb,5)=nJ rv/\nQ y (mb,6)=nJ cp/\nQ y (mb,7)=nJ uv):=Hd (fun y C=>by
  have hh:∀j u,nQ w ⟨mb,j,nK⟩=nJ u->nQ y ⟨mb,j,nK⟩=nJ u:=fun j u hu=>(C.cell (p:=⟨mb,j,nK⟩) di).trans hu
  exact⟨hh 0 _ (hm 0 mR),hh 1 _ (hm 1 mR),hh 2 _ (hm 2 mR),hh 3 _ (hm 3 mR),hh 5 _ c5,hh 6 _ c6,hh 7 _ c7⟩)
 have fq:Hid (∀y,Below w w y->Dl (Old w.heap.size) y rv (g.R.length+1) g.right):=Hd (fun y C=>hR.Ay (Aj.AJ (X:=fun b=>w.heap.size<=b) C) (fun b R h=>by unfold Old at R;omega));have g1:Hid (∀y,Below w w y->Dl (Old w.heap.size) y uv (g.top+1) g.CF):=Hd (fun y C=>hU.Ay (Aj.AJ (X:=fun b=>w.heap.size<=b) C) (fun b R h=>by unfold Old at R;omega));have fx:Hid (∀y,Below w w y->FY (Old w.heap.size) y (g.nt+1) cp (g.R.length+1) T):=Hd (fun y C=>hT.Ay (Aj.AJ (X:=fun b=>w.heap.size<=b) C) (fun b R h=>by unfold Old at R;omega))
 have fj:=Hd (fun y (C:Below w w y) (x:Nat)=>MD (hg.later C) x);have dt:Hid (∀y,Below w w y->() 190 #[(mb,0),nC nK 0 0] y fun e w'=>∃h:AH,e=nP h.v/\h.n=g.nt+1/\y.heap.size<=h.h/\y.heap.size<=h.wb/\AU w' h 0/\Below y y w'):=Hd (fun y C=>by have h0:=(C.cell (p:=⟨mb,0,nK⟩) di).trans (hm 0 mR);exact P9 (l:=[]) h0 h1 ⟨⟨nK,0,rfl,fun k x U=>by simp at U⟩,mV,fun A n c e=>by cases e;exact⟨AF _,fun _=>rfl⟩⟩ (fun x U=>by cases U))
 have dw:=Hd e7;have f8:=Hd hc;have fb:=Hd bn;have jl:g.top<=1000:=by unfold Gz.top;omega
 clear hg hm c5 c6 c7 hR hU hT e7 hc bn;go_enter func191,ntmps191
 go_wp2;refine Vd 0 (fun n a' wr=>∃(mm nD ob oc:Nat) (tv:nU) (Z:List (AH×AZ)) (ab:List Nat) (D:DataW Unit),Hid (CE w wr mm nD ob oc (g.nt+1) tv Z ab D)/\Hid (g.Ha T n (Z.map (·.2)) ab=nJ CC)/\nD<=Z.length/\Z.length<=20000/\Hid (∀z∈Z,z.2.s<=g.top)/\a'=Po mb s mm ob Z.length oc tv (fun i=>a'.tmps.getD i undef)) rfl ?pass ?first
 case first=>
  intro HJ;have fe:=Hd HJ;clear HJ;have ho:s<=100000:=by omega
  have dh:Gs (w.alloc (.map #[] 0)) w.heap.size 0 (.map []):=World.ownsMap_made (H:=Unit) w Tryz.prog 3 (plainElem Tryz.prog 3);obtain⟨w1,eo,ei,ef⟩:=MV dh mR (s:=s) (c:=0) ho mR;rw[show ((0:Nat):Int)=0 from rfl]at eo;have cs:Hid (Below w w w1):=Hd (((Below.refl _ w).alloc (AF _) _).trans ((Aj.of_map ef).below mV (fun k hk e=>by have e2:k=w.heap.size:=e;omega)));have fg:=Hd ei;have fd:=Hd dh.isMap;clear dh ei ef;go_wp2_with (
         go_at_call 190;refine(dt _ cs).mono ?_;rintro e w2 ⟨h0,rfl,az,bc,b5,b4,d8⟩
         have a6:=Hd (And.intro az (And.intro (And.intro bc b5) b4));have bp:=Hd d8;unfold AH.v;clear az bc b5 b4 d8)
  go_step3
  simp only[Exit.then];apply_assumption
  refine fe Gz.Qn _ _ ?_;refine⟨w.heap.size,1,w2.heap.size,1,nC (w2.heap.size+1,0) 1 1,[(h0,⟨s,0,true⟩)],[0],_,Hd (?_:CE _ _ _ _ _ _ _ _ _ _ (DataW.put (.map []) (Cj s) (.lit (.int nM ((0:Nat):Int))))),f8,AF _,mV,Hd (fun z hz=>by rw[mS.1 hz];exact hp),rfl⟩;have i4:=cs.size;have i5:=bp.size;have ay:Below w w w2:=cs.trans (bp.mono i4);obtain⟨az,⟨bc,b5⟩,b4⟩:=a6.out;refine⟨(ay.alloc ay.size _).alloc mX _,?_,?_,?_,?_,(((Aj.AJ (X:=fun _=>False) bp).map fg id).alloc _).alloc _,?_,AF _,?_⟩
  ·refine⟨rfl,.inr ⟨w2.heap.size,1,#[s,h0.v,nI true],rfl,ay.size,(Ah.new w2 301 _).alloc _,AF _,mT,rfl,rfl⟩⟩
  ·have hf:=(BA.nil w1 (g.nt+1)).push bp b4 az b5
   have gr:=(hf.later (DE w2 (nO #[s,h0.v,nI true] 301))).later (DE _ (nO #[nE nM 0] 3));exact gr
  ·intro z hz
   rw[mS.1 hz];simp only;omega
  ·refine⟨rfl,.inr ⟨w2.heap.size+1,0,1,#[nE nM 0],rfl,mR,Ah.newAt mV,AF _,mT,mV,fun j u hu=>?_⟩⟩
   match j,hu with
   | 0,hu=>simpa [AS] using hu
   | j+1,hu=>simp at hu
  ·refine(D5.start.next fd s 0).congr fun a=>?_
   unfold EN;by_cases ha:a=s
   ·subst ha;simp
   ·have:(s==a)=false:=beq_false_of_ne (fun e=>ha e.symm)
    simp[ha,this]
  ·intro i hi
   rw[mS.1 hi];simp
 case pass=>
  rintro n a' wr ⟨mm,nD,ob,oc,tv,Z,ab,D,HS,cw,gx,jr,e3,ha⟩;obtain⟨f,hf⟩:∃f,a'=Po mb s mm ob Z.length oc tv f:=⟨_,ha⟩
  clear ha;subst hf;unfold Po;obtain⟨Aq,cq,hx⟩:=HS.Jr.shape;subst hx;cases n with
  | zero=>have h:=cw.out;simp[Gz.Ha]at h
  | succ n=>
   cases ab with
   | nil=>
    have HE:Hid (Z.map (·.2)=CC):=Hd (by have h:=cw.out;unfold Gz.Ha at h;exact Option.some.inj h);go_wp2;simp only[Exit.jump];go_ret;refine⟨_,rfl,?_,HS.below⟩;have hl:CC.length=Z.length:=by rw[<-HE.out,lM]
    obtain⟨ga,cd,h7⟩:=HS.Ap;have he:=OB HS.row;unfold DZ;rw[hl];refine⟨_,oc,rfl,he.1,mR,fun k hk=>⟨ob,0,rfl,⟨h7,cd.lt⟩,cd.lt,fun j hj=>?_⟩⟩;obtain⟨z,hz⟩:∃z,Z[k]?=nJ z:=⟨_,eG hk⟩
    have gl:CC.getD k ⟨0,0,false⟩=z.2:=by rw[<-HE.out,dG,pG,hz];rfl
    obtain⟨c0,c1,c2,-⟩:=HS.cells hz;obtain⟨a1,a2⟩:=HS.Kw hz;have f5:=HS.new z (mG hz);show ∃x,nQ wr (ob,0+k*3+j)=nJ x/\(if j=0 then x=nE nM ((CC.getD k ⟨0,0,false⟩).s:Nat) else if j=1 then ∃h:AH,x=h.v/\h.n=g.nt+1/\IM (fun b=>w.heap.size<=b/\b<wr.heap.size) wr h (CC.getD k ⟨0,0,false⟩).set else x=nI (CC.getD k ⟨0,0,false⟩).self)
    rw[gl,Nat.zero_add]
    match j,hj with
    | 0,_=>exact⟨_,c0,rfl⟩
    | 1,_=>exact⟨_,c1,z.1,rfl,a2,a1,⟨f5.1,a1.head.lt⟩,⟨f5.2,a1.words.lt⟩⟩
    | 2,_=>exact⟨_,c2,rfl⟩
   | cons i ab=>
    have b1:=cw.out;unfold Gz.Ha at b1;have iz:Z.length+ab.length<=10000:=by
     split at b1
     ·cases b1
     ·rename_i h;rw[lM]at h;omega
    rw[if_neg (by rw[lM];omega)]at b1;have gu:=HS.tb i mV;obtain⟨⟨U,o⟩,ca⟩:∃z,Z[i]?=nJ z:=⟨_,eG gu⟩
    have eg:(Z.map (·.2)).getD i ⟨0,0,false⟩=o:=by rw[dG,pG,ca];rfl
    rw[eg]at b1;have f9:=Hd b1;obtain⟨q,off,gf,hd,ep,er⟩:=HS.Jr.at_ mV;subst gf;have q0:nQ wr ⟨q,off,nK⟩=nJ (nE nM i):=by have:=er 0 _ rfl;simpa [AS] using this
    simp only[List.length_cons]at ep;obtain⟨cm,h9,en⟩:∃cm:Nat,(if cq=1 then nJ (⟨q,off,nK⟩:Addr) else nJ ⟨q,off+1,nK⟩)=nJ ⟨q,cm,nK⟩/\(cm=off+1\/(cq=1/\cm=off)):=by
     by_cases P:cq=1
     ·exact⟨off,by rw[if_pos P],.inr ⟨P,rfl⟩⟩
     ·exact⟨off+1,by rw[if_neg P],.inl rfl⟩
    have gp:(1:Int)<=(cq:Int):=by omega
    have gq:((ab.length:Int)+1)<=(cq:Int):=by omega
    have hb:(0:Int)<((ab.length:Int)+1):=by omega
    have cf:(((ab.length:Int)+1)==0)=false:=by rw[bN];omega
    have fs:=Hd (HS.Ln (B8.tail HS.Jr en));obtain⟨x0,x1,x2,-⟩:=HS.cells ca;simp only at x0 x1 x2;unfold AH.v at x1;have j2:(i:Int)<(Z.length:Int):=by omega
    have c8:=Hd (Ah.new wr 301 #[nE nM (o.s:Nat),(U.h,0),nI o.self]);have d1:=Hd (fs.later (DE wr (nO #[nE nM (o.s:Nat),(U.h,0),nI o.self] 301)));have e0:=Hd ca;clear er en b1 eg ca ep;have iy:o.s<=g.top:=e3 _ (mG e0);obtain⟨y0,y1,y2,y3,y5,y6,y7⟩:=HC _ d1.below;obtain⟨bu,ou,cu,Ak,ck,i0,iv,hy,f0⟩:=(g1 _ d1.below).at_ (k:=o.s) mR;subst i0;have g0:=Hd f0;have jh:(o.s:Int)<((g.top:Int)+1):=by omega
    have ji:(o.s:Int)<((g.top+1:Nat):Int):=by omega
    go_upto_region 8 with fail
    have gw:mb<(wr.alloc (nO #[nE nM (o.s:Nat),(U.h,0),nI o.self] 301)).heap.size:=by have:=HS.below.size;simp;omega
    have z0:(wr.alloc (nO #[nE nM (o.s:Nat),(U.h,0),nI o.self] 301)).cell? (wr,0)=nJ (nE nM (o.s:Nat)):=Ah.cell c8 0;have zl:wr.heap.size<(wr.alloc (nO #[nE nM (o.s:Nat),(U.h,0),nI o.self] 301)).heap.size:=Ah.lt c8;have h8:ob≠wr.heap.size:=by obtain⟨ga,cd,_⟩:=HS.Ap;have:=cd.lt;omega
    have je:(g.CF o.s).length<=300:=AY (Lh g o.s) gz;have b3:∀k∈g.CF o.s,k<g.R.length:=fun k hk=>by unfold Gz.CF at hk;exact List.mem_range.1 (List.mem_filter.1 hk).1
    have fl:=Hd b3;generalize et:g.CF o.s=rules at *;have im:=Hd et;generalize el:rules.length=nr at *;have du:=Hd el;generalize f1:wr.heap.size=t at *;have g3:=Hd f1;generalize wr.alloc (nO #[nE nM (o.s:Nat),(U.h,0),nI o.self] 301)=W at *;clear et el f1 b3 f0 q0 h9 gp gq hb cf x0 x1 x2 hd;go_quiet (fail)
    have HD:∀n,Below W W (W.drewN n):=fun n=>⟨rfl,rfl,rfl,AF _,fun _ _=>rfl⟩
    have fr:=Hd (d1.later (HD nq));have g2:=Hd (c8.below (HD nq) c8.lt);have fz:Hid (BX (Old w.heap.size) (W.drewN nq) (nC Ak nr ck) rules):=Hd (g0.Ay (Aj.AJ (X:=fun _=>False) (HD nq)) (fun _ _=>id));generalize W.drewN nq=W1 at *;clear HD z0 zl hy y0 y1 y2 y3 y5 y6 y7 gw;go_wp2_with fail
    go_loopw [6,7,44] (fun ov tv jj wy=>∃(k af a5 ag:Nat) (l:List (AH×AZ)) (a4:List Nat) (D':DataW Unit),k<=nr/\jj=nE nM k/\ov=nC (a5,0) l.length ag/\Hid (CE w wy mm af a5 ag (g.nt+1) tv l a4 D')/\Hid (Ah wy t 301 #[nE nM (o.s:Nat),(U.h,0),nI o.self])/\a5≠t/\Hid ((l.map (·.2),a4)=(rules.take k).foldl (g.FL T i o.self) (Z.map (·.2),ab))/\Hid (∃c,l[i]?=nJ (U,c))/\af<=l.length/\l.length<=Z.length+k/\a4.length<=ab.length+k/\Hid (∀z∈l,z.2.s<=g.top)/\Hid (BX (Old w.heap.size) wy (nC Ak nr ck) rules)) (fun _ _ jj _=>nr-(intOf jj).toNat)
    case atStart=>exact⟨0,nD,ob,oc,Z,ab,D,A0 _,rfl,rfl,fr,g2,h8,Hd rfl,Hd ⟨o,e0⟩,gx,mR,mR,e3,fz⟩
    case round=>
     obtain⟨k,af,a5,ag,l,a4,D',hk,rfl,rfl,a6,a7,b0,dr,d6,dj,i5,jk,bb,b9⟩:=hrel;rename nS=>w7
     by_cases gv:k<nr
     ·obtain⟨rk,b3⟩:∃x,rules[k]?=nJ x:=⟨_,eG (by rw[du.out];exact gv)⟩
      have jd:=fl rk (mG b3);obtain⟨bk,ok,gd,iq,ir,iw⟩:=b9.at_ b3;subst gd;have aq:=Hd a6.below;obtain⟨y0,y1,y2,y3,y5,y6,y7⟩:=HC _ aq;obtain⟨br,js,cr,ik,ip,hn,it,cg,bd⟩:=(fq _ aq).at_ (k:=rk) mR;subst hn;have bi:=Hd (LD (g.FL T i o.self) rules (Z.map (·.2),ab) k rk b3);rw[<-dr.out]at bi;have jb:(rk:Int)<((g.R.length+1:Nat):Int):=by omega
      have jc:(rk:Int)<(g.R.length:Int)+1:=by omega
      have j9:(k:Int)<(nr:Int):=by omega
      clear b3;cases aa:g.right rk with
      | nil=>
       have cy:=Hd (bi.trans (bM aa));rw[aa]at cg bd;simp only[List.length_nil]at cg;clear aa;go_upto_region 12 with fail
       go_quiet (fail)
       have cx:Hid (Below w7 w7 (w7.drewN nq)):=Hd ⟨rfl,rfl,rfl,AF _,fun _ _=>rfl⟩;go_wp2_with fail
       go_roundw
       case rel=>exact⟨k+1,af,a5,ag,l,a4,D',mR,mY,rfl,Hd (a6.later cx),Hd (a7.below cx a7.lt),b0,Hd cy.symm,d6,dj,mR,mR,bb,Hd (b9.Ay (Aj.AJ (X:=fun _=>False) cx) (fun _ _=>id))⟩
       case measure=>simp[intOf];omega
      | cons y rest=>
       rw[aa]at cg bd;simp only[List.length_cons]at cg bd;obtain⟨bq,oq,gg,gi,d9,dc⟩:=bd.at_ (k:=0) rfl;subst gg;rw[Nat.add_zero]at dc;have f3:y<=g.top:=fb.Mn (k:=rk) (x:=y) (by rw[aa];simp);have j7:(((rest.length:Int)+1)==0)=false:=by rw[bN];omega
       have ja:(0:Int)<(rest.length:Int)+1:=by omega
       have ai:Hid (Below w7 w7 w7.drew):=Hd ((Below.refl _ w7).drew);have bw:=Hd (fj w7.drew (aq.trans (ai.mono aq.size)) y);have ar:Hid (∀v,Below w7 w7 v->nQ v (mb,0)=nJ (nC AT g.nt cT)/\nQ v (mb,1)=nJ (nC AN g.nn cN)/\nQ v (mb,2)=nJ (nC AR g.R.length cR)/\nQ v (mb,3)=nJ (nE nM g.s)/\nQ v (bq,oq)=nJ (nE nM y)):=Hd (fun v hv=>by obtain⟨a0,a1,a2,a3,-⟩:=HC _ (aq.trans (hv.mono aq.size));exact⟨a0,a1,a2,a3,(hv.cell (p:=⟨bq,oq,nK⟩) d9).trans dc⟩)
       cases C:g.BK y with
       | false=>
        have cy:=Hd (bi.trans (mh aa C));have HY:=Hd C;clear aa C bd;go_upto_region 12 with fail
        go_region_held3 (fun v=>nQ v (mb,0)=nJ (nC AT g.nt cT)/\nQ v (mb,1)=nJ (nC AN g.nn cN)/\nQ v (mb,2)=nJ (nC AR g.R.length cR)/\nQ v (mb,3)=nJ (nE nM g.s)/\nQ v (bq,oq)=nJ (nE nM y))
          (first|exact ar _ ai|exact ar _ p)
          (first|(
                  go_at_call 52;refine bw.mono ?_;rintro e w8 ⟨rfl,ad⟩
                  rw[HY.out];have p:=Hd (ai.trans ad);clear ad))
        go_wp2_with fail
        go_roundw
        case rel=>exact⟨k+1,af,a5,ag,l,a4,D',mR,mY,rfl,Hd (a6.later p),Hd (a7.below p a7.lt),b0,Hd cy.symm,d6,dj,mR,mR,bb,Hd (b9.Ay (Aj.AJ (X:=fun _=>False) p) (fun _ _=>id))⟩
        case measure=>simp[intOf];omega
       | true=>
        have HY:=Hd C;obtain⟨ci,ak⟩:=d6.out;obtain⟨a8,cj⟩:∃a8,(T.getD rk [])[0]?=nJ a8:=⟨_,eG (by rw[dw.out rk mR,aa];simp)⟩
        have ev:Gz.Gp T rk 0=a8:=by unfold Gz.Gp;rw[dG,cj];rfl
        obtain⟨bt,ot,ct,xt,hs,⟨da,iu⟩,dd,ew⟩:=(fx _ aq).at_ (k:=rk) mR;subst hs;obtain⟨b2,o2,c2,ht,i3,⟨cc,d8⟩,dk,dm,ez,ch⟩:=ew.at_ cj;subst i3;rw[Nat.zero_mul,Nat.add_zero]at dk dm;have da:bt<w.heap.size:=da;have cc:b2<w.heap.size:=cc;have dn:ht.wb<w.heap.size:=ch.2.2;have fw:=Hd dn;have dx:=Hd ch.1;have hr:ht.h<w.heap.size:=ch.2.1;have fu:=Hd hr;have hw:(0:Int)<((T.getD rk []).length:Int):=by have:=dw rk mR;rw[aa,List.length_cons]at this;omega
        obtain⟨cn,ey⟩:∃n,(T.getD rk []).length=n:=⟨_,rfl⟩
        rw[ey]at dd hw;have jm:0<cn:=by omega
        have jn:¬(cn=0):=by omega
        have e6:∀v v',Below w7 w7 v->∀X:Nat->Prop,Aj X v v'->(∀q,X q->w.heap.size<=q/\q≠t)->v'.cell? (t,0)=nJ (nE nM (o.s:Nat))/\v'.cell? (t,1)=nJ (nF (U.h,0))/\v'.cell? (t,2)=nJ (nI o.self)/\v'.cell? (mb,6)=nJ (nC (bt,ot) (g.R.length+1) ct)/\v'.cell? (bt,ot+rk)=nJ (nC (b2,o2) cn c2)/\v'.cell? (b2,o2)=nJ (nF (ht.h,0))/\v'.cell? (b2,o2+1)=nJ (nI a8.2):=fun v v' hv X hc hX=>by
          have jo:=hv.size;have jq:=aq.size;have i2:=a7.lt;have gj:=a7.below hv i2;have Kv:∀(b j:Nat) (u:nU),b<w.heap.size->nQ w7 ⟨b,j,nK⟩=nJ u->v'.cell? ⟨b,j,nK⟩=nJ u:=fun b j u R hu=>(hc.cell mR (fun e=>by have:=(hX b e).1;omega) j).trans ((hv.cell (p:=⟨b,j,nK⟩) (by show b<w7.heap.size;omega)).trans hu)
          have ay:=hc.Ap gj (fun e=>(hX t e).2 rfl);exact⟨Ah.cell ay 0,Ah.cell ay 1,Ah.cell ay 2,Kv mb 6 _ di y6,Kv bt _ _ da dd,Kv b2 _ _ cc dk,Kv b2 _ _ cc dm⟩
        have bz:=Hd e6;have jf:(rk:Int)<((g.R.length+1:Nat):Int):=by omega
        clear e6 ew ch dd dk dm bd ey;have cl:y<=100000:=by omega
        cases hj:EN (l.map (·.2)) y with
        | some j=>
          have eh:j<l.length:=by unfold EN at hj;have:=(List.findIdx?_eq_some_iff_findIdx_eq.1 hj).1;simpa using this
          obtain⟨z,hz⟩:∃z,l[j]?=nJ z:=⟨_,eG eh⟩
          have an:=bi.trans (gR aa C hj (by rw[pG,ak];rfl) (by rw[pG,hz];rfl));rw[ev]at an;have ae:=Hd (fun v (hv:Below w7 w7 v)=>(a6.later hv).hand (mp:=nF (mb,0)) (sx:=o.s) (xs:=o.self) (emp:=a8.2) ak hz (dx.later hv) ez dn);have ee:CD o.self ci.set z.2 (i==j) (a8.1,a8.2)=CD o.self ci.set z.2 (i==j) a8:=rfl;simp only[ee]at ae;have dp:(CD o.self ci.set z.2 (i==j) a8).1.s=z.2.s:=by
           unfold CD;split
           ·rfl
           ·split
            · rfl
            · split<;>rfl
          generalize be:CD o.self ci.set z.2 (i==j) a8=rr at *;obtain⟨rc,rb⟩:=rr;simp only at an ae dp;have bx:=Hd an;have HJ:=Hd hj;have f4:=a6.new z (mG hz);have i1:=a7.lt;have cf:z.1.wb≠t:=fun e=>Ah.Bh a7 (a6.Kw hz).1.words mT e.symm
          have e5:=Hd (And.intro f4.2 (And.intro cf b0));have av:=a6.Ap;obtain⟨_,_,av⟩:=av;have dv:=Hd av;have j5:(j:Int)<(l.length:Int):=by omega
          have dz:Hid ((l.set j (z.1,rc))[i]?=nJ (U,if i=j then rc else ci)):=Hd (by
           by_cases df:i=j
           ·subst df
            rw[ak]at hz;cases hz
            rw[tG eh,if_pos rfl]
           ·rw[uG (fun e=>df e.symm),ak,if_neg df])
          have e1:Hid ((l.set j (z.1,rc)).map (·.2)=(l.map (·.2)).set j rc):=Hd (by rw[List.map_set]);have e4:Hid (∀y∈l.set j (z.1,rc),y.2.s<=g.top):=Hd (fun y C=>by
           rcases List.mem_or_eq_of_mem_set C with P|rfl
           ·exact bb y P
           ·simp only;rw[dp];exact bb z (mG hz))
          clear aa C hj an cj hz ak f4 i1 cf av ee be dp;cases rb with
          | false=>
           go_upto_region 12 with fail
           go_region_held3 (fun v=>nQ v (mb,0)=nJ (nC AT g.nt cT)/\nQ v (mb,1)=nJ (nC AN g.nn cN)/\nQ v (mb,2)=nJ (nC AR g.R.length cR)/\nQ v (mb,3)=nJ (nE nM g.s)/\nQ v (bq,oq)=nJ (nE nM y))
            (first|exact ar _ ai|exact ar _ p)
            (first|(
                    go_at_call 52;refine bw.mono ?_;rintro e w8 ⟨rfl,ad⟩
                    rw[HY.out];have p:=Hd (ai.trans ad);have a9:=Hd (a6.later p);have au:=MK a9.map a9.at_ cl;rw[HJ.out]at au;simp only[Option.getD_some,Option.isSome_some]at au;clear ad))
           go_upto_region 18 with fail
           go_region_held3 (fun v'=>v'.cell? (t,0)=nJ (nE nM (o.s:Nat))/\v'.cell? (t,1)=nJ (nF (U.h,0))/\v'.cell? (t,2)=nJ (nI o.self)/\v'.cell? (mb,6)=nJ (nC (bt,ot) (g.R.length+1) ct)/\v'.cell? (bt,ot+rk)=nJ (nC (b2,o2) cn c2)/\v'.cell? (b2,o2)=nJ (nF (ht.h,0))/\v'.cell? (b2,o2+1)=nJ (nI a8.2))
            (first|exact bz w8.drew w8.drew p.drew (fun _=>False) (Aj.refl _ _) (fun _ h=>h.elim)|exact bz w8.drew J p.drew _ ah ba)
            (first|(
                    go_at_call 218;refine(ae _ p.drew).mono ?_;rintro e J ⟨rfl,bo,al⟩
                    have aj:=Hd bo;have ah:=Hd al;have ba:Hid (∀q,(q=a5\/q=z.1.wb)->w.heap.size<=q/\q≠t):=Hd (fun q hq=>by
                     have P:=e5.out;have h2:=dv.out;rcases hq with rfl|rfl
                     ·exact⟨h2,P.2.2⟩
                     ·exact⟨P.1,P.2.1⟩)
                    have bm:=Hd (al.Ap (a7.below p.drew a7.lt) (fun e=>(ba t e).2 rfl));have bj:Hid (BX (Old w.heap.size) J (nC (bk,ok) nr ck) rules):=Hd ((b9.Ay (Aj.AJ (X:=fun _=>False) p.drew) (fun _ _=>id)).Ay al (fun b R e=>by have:=(ba b e).1;unfold Old at R;omega));clear bo al))
           all_goals go_wp2_with fail
           all_goals go_roundw
           all_goals first
            | (simp[intOf];omega)
            | exact⟨k+1,af,a5,ag,l.set j (z.1,rc),a4,D',mR,mY,by rw[List.length_set],aj,bm,b0,Hd (by rw[bx.out,e1.out];rfl),Hd ⟨_,dz⟩,by rw[List.length_set];omega,by rw[List.length_set];omega,mR,e4,bj⟩
          | true=>
           go_upto_region 12 with fail
           go_region_held3 (fun v=>nQ v (mb,0)=nJ (nC AT g.nt cT)/\nQ v (mb,1)=nJ (nC AN g.nn cN)/\nQ v (mb,2)=nJ (nC AR g.R.length cR)/\nQ v (mb,3)=nJ (nE nM g.s)/\nQ v (bq,oq)=nJ (nE nM y))
            (first|exact ar _ ai|exact ar _ p)
            (first|(
                    go_at_call 52;refine bw.mono ?_;rintro e w8 ⟨rfl,ad⟩
                    rw[HY.out];have p:=Hd (ai.trans ad);have a9:=Hd (a6.later p);have au:=MK a9.map a9.at_ cl;rw[HJ.out]at au;simp only[Option.getD_some,Option.isSome_some]at au;clear ad))
           go_upto_region 18 with fail
           obtain⟨i9,ia,ib,ic,ie,ig,ih⟩:=bz w8 w8 p (fun _=>False) (Aj.refl _ _) (fun _ h=>h.elim);first|(go_region_law (first|(
                         go_simp;go_at_call 218;refine(ae _ p.drew).mono ?_;rintro e J ⟨rfl,bo,al⟩;have aj:=Hd bo;have ah:=Hd al;have ba:Hid (∀q,(q=a5\/q=z.1.wb)->w.heap.size<=q/\q≠t):=Hd (fun q hq=>by
                          have P:=e5.out;have h2:=dv.out;rcases hq with rfl|rfl
                          ·exact⟨h2,P.2.2⟩
                          ·exact⟨P.1,P.2.1⟩)
                         have bm:=Hd (al.Ap (a7.below p.drew a7.lt) (fun e=>(ba t e).2 rfl));have bj:Hid (BX (Old w.heap.size) J (nC (bk,ok) nr ck) rules):=Hd ((b9.Ay (Aj.AJ (X:=fun _=>False) p.drew) (fun _ _=>id)).Ay al (fun b R e=>by have:=(ba b e).1;unfold Old at R;omega));clear bo al)))|fail
           all_goals go_wp2_with (
                        at_builtin;refine NI GW (.tmp 114) (.tmp 116) rfl rfl (base:=w.heap.size) (n:=a4.length) (m:=1) (N:=a4.length+1) (xs:=a4.map AS) (news:=[nE nM j]) rfl rfl (aj.later (AE J (nO #[nE nM j] 3))).Jr (Ba.Ap (c:=1) (cs:=[nE nM j]) (Ah.new J 3 _) rfl mZ) mR rfl mW mR (aj.later (AE J (nO #[nE nM j] 3))).below.size ?_
                        intro f6 g9 b7 r1 I r3;have il:=Hd I;have d0:=Hd ((aj.later (AE J (nO #[nE nM j] 3))).SF (i:=j) (by rw[List.length_set];omega) r1 I);have d5:=Hd (I.Ap (bm.alloc (nO #[nE nM j] 3)) (.inr mT));have d3:=Hd ((bj.Ay (Aj.AJ (X:=fun _=>False) (AE J (nO #[nE nM j] 3))) (fun _ _=>id)).Ay (X:=fun b=>w.heap.size<=b) ⟨I.os,I.tape,I.output,I.size,fun q hq U=>I.block q hq (.inl mR)⟩ (fun b R e=>by unfold Old at R;omega));clear r1 I r3)
           all_goals go_roundw
           all_goals first
            | (simp[intOf];omega)
            | exact⟨k+1,af,a5,ag,l.set j (z.1,rc),a4++[j],D',mR,mY,by rw[List.length_set],Hd (by simpa using d0.out),d5,b0,Hd (by rw[bx.out,e1.out];rfl),Hd ⟨_,dz⟩,by rw[List.length_set];omega,by rw[List.length_set];omega,mX,e4,d3⟩
        | none=>
          have an:=bi.trans (eQ aa C hj (by rw[pG,ak];rfl));rw[ev,lM]at an;have HJ:=Hd hj;have gs:i<l.length:=(sG.1 ak).1;obtain⟨rr,be⟩:∃rr,CD o.self ci.set ⟨y,0,false⟩ (i==l.length) a8=rr:=⟨_,rfl⟩
          rw[be]at an;have fo:=Hd be;have bx:=Hd an;have g5:=Hd ak;have i6:l.length<=100000:=by omega
          have gy:af<=10000000:=by omega
          obtain⟨_,_,av⟩:=a6.Ap;have dg:=a6.lo;have f2:w.heap.size<=t:=by rw[<-g3.out];exact HS.below.size
          have ek:mm≠t:=fun e=>(Dr a6.map a7) e.symm
          have bl:Hid (∀q,(q=mm\/q=a5)->w.heap.size<=q/\q≠t):=Hd (fun q hq=>by
           rcases hq with rfl|rfl
           ·exact⟨dg,ek⟩
           ·exact⟨av,b0⟩)
          have es:rr.1.s=y:=by
           rw[<-be];unfold CD;split
           ·rfl
           ·split
            · rfl
            · split<;>rfl
          have fp:=Hd es;have j0:(i:Int)<(l.length:Int)+1:=by omega
          have j1:(i:Int)<((l.length+1:Nat):Int):=by omega
          have j3:(l.length:Int)<(l.length:Int)+1:=by omega
          have j4:(l.length:Int)<((l.length+1:Nat):Int):=by omega
          have ds:=Hd (show w.heap.size<=a5/\w.heap.size<=mm/\w.heap.size<=t from ⟨av,dg,f2⟩);have ed:bq<w.heap.size:=gi;have f7:=Hd ed;clear aa C hj an be cj ak av dg f2 ed ek es;go_upto_region 12 with fail
          go_region_held3 (fun v=>nQ v (mb,0)=nJ (nC AT g.nt cT)/\nQ v (mb,1)=nJ (nC AN g.nn cN)/\nQ v (mb,2)=nJ (nC AR g.R.length cR)/\nQ v (mb,3)=nJ (nE nM g.s)/\nQ v (bq,oq)=nJ (nE nM y))
           (first|exact ar _ ai|exact ar _ p)
           (first|(
                   go_at_call 52;refine bw.mono ?_;rintro e w8 ⟨rfl,ad⟩
                   rw[HY.out];have p:=Hd (ai.trans ad);have a9:=Hd (a6.later p);have au:=MK a9.map a9.at_ cl;rw[HJ.out]at au;simp only[Option.getD_none,Option.isSome_none]at au;obtain⟨J,eo,ej,de⟩:=MV a9.map gy cl (c:=l.length) i6;have fh:=Hd ej;have fc:=Hd de;have ah:Hid (Aj (·=mm) w8 J):=Hd (Aj.of_map de);have ec:bq<w8.heap.size:=AK d9 p.size;have gm:nQ J (bq,oq)=nJ (nE nM y):=(ah.cell ec (fun e=>by have:=ds.2.1;have:=f7.out;omega) oq).trans ((p.cell (p:=⟨bq,oq,nK⟩) d9).trans dc)
                   have dq:Hid (Below w w J):=Hd (a9.below.trans (ah.below a9.below.size (fun q hq e=>by have:=ds.2.1;omega)));have ff:=Hd (dt J.drew dq.drew);clear ej de ad))
          go_upto_region 17 with fail
          have fm:Hid (J.ownsRow w 301 3 (nC (a5,0) l.length ag) l.length (l.flatMap FJ)):=Hd (ah.own a9.row (fun b R=>Hq a9.map a9.row b R));have gh:bq<J.heap.size:=AK ec ah.size;go_region_law (first
           | (
             go_simp;go_at_call 190;refine ff.mono ?_;rintro e b6 ⟨t0,rfl,az,bc,b5,b4,hb10⟩;have ao:Hid (Below J J b6):=Hd (((Below.refl _ J).drew).trans hb10);have ix:nQ b6 (bq,oq)=nJ (nE nM y):=(ao.cell (p:=⟨bq,oq,nK⟩) gh).trans gm;have d2:Hid (t0.n=g.nt+1/\(J.heap.size<=t0.h/\J.heap.size<=t0.wb)/\AU b6 t0 0):=Hd ⟨az,⟨bc,b5⟩,b4⟩;have bh:=Hd (DE b6 (nO #[nE nM y,(t0.h,0),nI false] 301));unfold AH.v;clear az bc b5 b4 hb10)
           | (
             refine Fe eI (.tmp 86) (.tmp 93) ?_ ?_ (base:=w.heap.size) (n:=l.length) (m:=1) (N:=l.length+1) (v:=nC (a5,0) l.length ag) (src:=nC (b6,0) 1 1) (xs:=l.flatMap FJ) (news:=FJ (t0,⟨y,0,false⟩)) ?_ ?_ ?_ ?_ ?_ ?_ ?_ ?_ ?_
             · rfl
             · rfl
             · rfl
             · rfl
             · exact AV (AV fm ao) bh
             · exact Ba.Ap (c:=1) (cs:=FJ (t0,⟨y,0,false⟩)) (Ah.new b6 301 _) rfl (fun u hu=>by unfold FJ at hu;simp at hu;rcases hu with rfl|rfl|rfl<;>rfl)
             · rfl
             · unfold maxLen;omega
             · omega
             · have P:=dq.size;have h2:=ao.size;simp;omega
             intro ij g8 aw r1 I r3;have fi:=a9.more HJ fh fc (ao.trans (bh.mono ao.size)) (d2.2.2.later bh) d2.1 d2.2.1 r1 I;obtain⟨bf,gb,cz⟩:=fi;subst gb;have cz:=Hd cz;have em:bf≠t:=by
               rcases r3.2 with e|e
               · have e2:nJ bf=nJ a5:=e
                 cases e2;exact b0
               · have e2:nJ bf=nJ (b6.alloc (nO #[nE nM y,(t0.h,0),nI false] 301)).heap.size:=e
                 have P:=a7.lt;have h2:=p.size;have h3:=ah.size;have h4:=ao.size;have h5:=bh.size;have h6:=Option.some.inj e2;omega
             have bv:Hid (Aj (fun q=>q=mm\/q=a5) w8 aw):=Hd (((ah.mono fun q hq=>.inl hq).next (Aj.AJ (ao.trans (bh.mono ao.size)))).next ((Aj.Cy r3.1).mono fun q hq=>.inr (by cases hq;rfl)));clear r1 I r3))
          all_goals go_upto_region 18 with fail
          all_goals
           obtain⟨i9,ia,ib,ic,ie,ig,ih⟩:=bz w8 aw p _ bv bl;have d4:=Hd (bv.Ap (a7.below p a7.lt) (fun e=>(bl t e).2 rfl));have fy:Hid (BX (Old w.heap.size) aw (nC (bk,ok) nr ck) rules):=Hd ((b9.Ay (Aj.AJ (X:=fun _=>False) p) (fun _ _=>id)).Ay bv (fun b R e=>by have:=(bl b e).1;unfold Old at R;omega));have fv:Hid (AU aw ht a8.1):=Hd ((dx.later p).Ay bv (fun e=>by have P:=(bl _ e).1;have h2:=fu.out;omega) (fun e=>by have P:=(bl _ e).1;have h2:=fw.out;omega))
           obtain⟨Z9,ax⟩:∃Z9,l++[(t0,⟨y,0,false⟩)]=Z9:=⟨_,rfl⟩
           have e9:Z9.length=l.length+1:=by rw[<-ax];simp
           have d7:Z9[i]?=nJ (U,ci):=by rw[<-ax,gL gs];exact g5
           have cb:Z9[l.length]?=nJ (t0,⟨y,0,false⟩):=by rw[<-ax];simp
           have ea:(Z9.set l.length (t0,rr.1)).map (fun z:AH×AZ=>z.2)=(l.map (fun z:AH×AZ=>z.2)++[(⟨y,0,false⟩:AZ)]).set l.length rr.1:=by rw[<-ax,List.map_set,Bz];rfl
           have eb:∀z∈Z9.set l.length (t0,rr.1),z.2.s<=g.top:=fun z hz=>by
            rcases List.mem_or_eq_of_mem_set hz with P|rfl
            · rw[<-ax]at P
              rcases mA.1 P with h2|h2
              · exact bb z h2
              · rw[mS.1 h2];exact f3
            · simp only;rw[fp.out];exact f3
           have e8:(Z9.set l.length (t0,rr.1))[i]?=nJ (U,ci):=by rw[uG mR,d7]
           have b8:=cz.out;rw[ax]at b8;have ae:=(b8.later (((Below.refl _ aw).drew))).hand (mp:=nF (mb,0)) (sx:=o.s) (xs:=o.self) (emp:=a8.2) d7 cb (fv.later ((Below.refl _ aw).drew)) ez dn;simp only[show CD o.self ci.set (⟨y,0,false⟩:AZ) (i==l.length) (a8.1,a8.2)=rr from fo.out]at ae;have ae:=Hd ae;have g6:=Hd ea;have g7:=Hd eb;have g4:=Hd e8;have fk:Hid (w.heap.size<=bf):=Hd (by obtain⟨_,_,hh⟩:=b8.Ap;exact hh);have ft:Hid (w.heap.size<=t0.wb/\t0.wb≠t):=Hd (by have h0:=b8.new _ (mG cb);exact⟨h0.2,fun e=>Ah.Bh d4 (b8.Kw cb).1.words mT e.symm⟩)
           have dy:Hid (∀q,(q=bf\/q=t0.wb)->w.heap.size<=q/\q≠t):=Hd (fun q hq=>by
            rcases hq with rfl|rfl
            · exact⟨fk,em⟩
            · exact ft)
           clear ax d7 cb ea eb e8 b8;have c9:=Hd e9;clear e9;obtain⟨rc,rb⟩:=rr;simp only at ae
          all_goals cases rb
          all_goals
           first|(go_region_law (first|(
                         go_simp;go_at_call 218;refine ae.mono ?_;rintro e b7 ⟨rfl,eu,db⟩;have aj:=Hd eu;have bm:=Hd (db.Ap (d4.below ((Below.refl _ aw).drew) d4.lt) (fun e=>(dy t e).2 rfl));have bj:Hid (BX (Old w.heap.size) b7 (nC (bk,ok) nr ck) rules):=Hd ((fy.Ay (Aj.AJ (X:=fun _=>False) ((Below.refl _ aw).drew)) (fun _ _=>id)).Ay db (fun b R e=>by have:=(dy b e).1;unfold Old at R;omega));clear eu db)))|fail
          all_goals go_wp2_with (
                       at_builtin;refine NI GW (.tmp 114) (.tmp 116) rfl rfl (base:=w.heap.size) (n:=a4.length) (m:=1) (N:=a4.length+1) (xs:=a4.map AS) (news:=[nE nM l.length]) rfl rfl (aj.later (AE b7 (nO #[l.length] 3))).Jr (Ba.Ap (c:=1) (cs:=[nE nM l.length]) (Ah.new b7 3 _) rfl mZ) mR rfl mW mR (aj.later (AE b7 (nO #[l.length] 3))).below.size ?_
                       intro f6 g9 jt r1 I r3;have d0:=Hd ((aj.later (AE b7 (nO #[l.length] 3))).SF (i:=l.length) (by rw[List.length_set,c9.out];omega) r1 I);have d5:=Hd (I.Ap (bm.alloc (nO #[l.length] 3)) (.inr mT));have d3:=Hd ((bj.Ay (Aj.AJ (X:=fun _=>False) (AE b7 (nO #[l.length] 3))) (fun _ _=>id)).Ay (X:=fun b=>w.heap.size<=b) ⟨I.os,I.tape,I.output,I.size,fun q hq U=>I.block q hq (.inl mR)⟩ (fun b R e=>by unfold Old at R;omega));clear r1 I r3)
          all_goals go_roundw
          all_goals first
           | (simp[intOf];omega)
           | exact⟨k+1,af+1,bf,g8,Z9.set l.length (t0,rc),a4++[l.length],_,mR,mY,by rw[List.length_set,c9.out],Hd (by simpa using d0.out),d5,em,Hd ((congrArg (fun i7=>(i7,a4++[l.length])) g6).trans bx.symm),Hd ⟨_,g4⟩,by rw[List.length_set,c9.out];omega,by rw[List.length_set,c9.out];omega,mX,g7,d3⟩
     ·obtain rfl:k=nr:=by omega
      have fa:Hid (g.Ha T n (l.map (·.2)) a4=nJ CC):=Hd (by have h:=f9.out;have h2:=dr.out;rw[Dd (by rw[du.out];omega)]at h2;rw[<-h2]at h;exact h)
      go_wp2_with fail
      go_step3
      refine SL ?_;exact⟨n,Nat.lt_succ_self n,mm,af,a5,ag,_,l,a4,D',a6,fa,dj,mR,bb,rfl⟩
structure ES(w:nS)(B g n c:Nat)(R:List (nU×List Nat)):Prop where
 row:w.ownsRow B 34 1 (nC (g,0) n c) n (R.map (·.1))
 own:∀(k:Nat) (x:nU×List Nat),R[k]?=nJ x->w.ownsRow B 3 1 x.1 x.2.length (x.2.map AS)
 apart:∀(i j:Nat) (x y:nU×List Nat),R[i]?=nJ x->R[j]?=nJ y->i≠j->∀k,x.1.ownBlock=nJ k->y.1.ownBlock≠nJ k
def ES.len{w:nS}{B g n c:Nat}{R:List (nU×List Nat)}(h:ES w B g n c R):R.length=n:=by have:=h.row.1;simpa using this
def ES.later{w:nS}{B g n c:Nat}{R:List (nU×List Nat)}(h:ES w B g n c R)(i:Below w w w'):ES w' B g n c R:=
 ⟨AV h.row i,fun k x j=>AV (h.own k x j) i,h.apart⟩
def ES.Ay{w:nS}{B g n c:Nat}{R:List (nU×List Nat)}(h:ES w B g n c R)(i:Aj X w w')(o:¬X g)(l:∀(k:Nat) (x:nU×List Nat),R[k]?=nJ x->∀b,x.1.ownBlock=nJ b->¬X b):ES w' B g n c R:=
 ⟨i.own h.row (fun k p=>by cases p;exact o),fun k x j=>i.own (h.own k x j) (l k x j),h.apart⟩
def ES.Ap{w:nS}{B g n c:Nat}{R:List (nU×List Nat)}(h:ES w B g n c R):∃i,Ah w g 34 i:=by
 rcases h.row.2 with⟨j,_⟩|⟨o,cap,i,j,p,l,_⟩
 ·cases j
 ·cases j;exact⟨i,l⟩
def ES.put{w o:nS}{B g n c:Nat}{R:List (nU×List Nat)}(h:ES w B g n c R)(hW:Below w w W){x:nU×List Nat}(hx:R[s]?=nJ x){l:List Nat}
  (r1:o.ownsRow B 3 1 nv l.length (l.map AS)) (r2:AI B [3] W o) (r3:W.grownBy o x.1.ownBlock/\(nv.ownBlock=x.1.ownBlock\/nv.ownBlock=nJ W.heap.size)):ES (o.setCell (g,s) nv) B g n c (R.set s (nv,l)):=by
 have t:=h.later hW;obtain⟨U,a9⟩:=sG.1 hx;have a8:=h.len;obtain⟨a7,a4⟩:=t.Ap;have a2:=r2.Ap a4 (.inr mT);have hc:Aj (·=g) o (o.setCell (g,s) nv):=Aj.set (X:=(·=g)) (Aj.refl _ o) (p:=⟨g,s,nK⟩) (.inr rfl) _;have a5:=r2.own t.row (.inr mT);refine⟨?_,?_,?_⟩
 ·have:=Gl a5 s mR nv
  rw[List.map_set];exact this
 ·intro k y j
  by_cases T:k=s
  ·subst T
   rw[tG U]at j;cases j
   exact hc.own r1 (Ft r1 a2 mT)
  ·rw[uG (fun e=>T e.symm)]at j
   have a6:=t.own k y j;have a3:o.ownsRow B 3 1 y.1 y.2.length (y.2.map AS):=(Aj.Cy r3.1).own a6 (fun b i he=>h.apart s k x y hx j (fun e=>T e.symm) b he i);exact hc.own a3 (Ft a3 a2 mT)
 ·intro a0 a1 a b ha i P k C I
  have key:∀(m:Nat) (y:nU×List Nat),R[m]?=nJ y->m≠s->∀k,nv.ownBlock=nJ k->y.1.ownBlock≠nJ k:=fun m y j hm k p h2=>by
   rcases r3.2 with e|e
   ·rw[e]at p
    exact h.apart s m x y hx j (fun e=>hm e.symm) k p h2
   ·rw[e]at p
    cases p
    have:=(BR (t.own m y j) _ h2).1;omega
  by_cases J:a0=s
  ·subst J
   rw[tG U]at ha;cases ha
   rw[uG P]at i;exact key a1 b i (fun e=>P e.symm) k C I
  ·rw[uG (fun e=>J e.symm)]at ha
   by_cases hj:a1=s
   ·subst hj
    rw[tG U]at i;cases i
    exact key a0 a ha J k I C
   ·rw[uG (fun e=>hj e.symm)]at i
    exact h.apart a0 a1 a b ha i P k C I
def ES.fresh(w:nS){B n:Nat}(p:B<=w.heap.size)(I:n<=100000):ES (w.alloc (nO (Array.replicate n (nC nK 0 0)) 34)) B w.heap.size n n (List.replicate n (nC nK 0 0,[])):=by
 refine⟨⟨mV,.inr ⟨w.heap.size,n,_,rfl,p,Ah.new w _ _,AF _,mW,mV,mV⟩⟩,fun k x l=>?_,fun i j x y l J C k t=>?_⟩
 ·obtain⟨o,rfl⟩:=sG.1 l
  simp;exact⟨rfl,.inl ⟨rfl,rfl⟩⟩
 ·obtain⟨o,rfl⟩:=sG.1 l
  simp[Value.ownBlock]at t
def MR(l w:nS)(g:Gz)(k:Nat)(e:Ending)(w':nS):Prop:=∃i,e=nP (.tuple #[.agg #[nE nM ((g.AX k).1:Nat),i],nI true])/\Bv w' i (g.right k)/\Below w w w'/\(k<g.R.length->Bv l i (g.right k))/\(k=g.R.length->∃b,i=nC (nJ ⟨b,0,nK⟩) 1 1/\w.heap.size<=b/\∃j,Ah w' b 3 j)
def Ri{l w:nS}{v:nU}{g:Gz}(h:GN l v g)(p:Below l l w){k:Nat}(hk:k<=g.R.length):() 80 #[v,nE nM k] w (MR l w g k):=by
 have hf:=h.fit.nr;obtain⟨AT,cT,AN,cN,AR,cR,rfl,T,a1⟩:=h.open_;have J:∀k r,g.R[k]?=nJ r->∃b off i,AR=nJ ⟨b,off,nK⟩/\b<w.heap.size/\nQ w ⟨b,off+k*2,nK⟩=nJ (nE nM r.1)/\nQ w ⟨b,off+k*2+1,nK⟩=nJ i/\Bv w i r.2/\Bv l i r.2:=fun k r j=>by obtain⟨b,off,i,h1,I,h3,h4,R⟩:=T k r j;exact⟨b,off,i,h1,AK I p.size,(p.cell (p:=⟨b,off+k*2,nK⟩) I).trans h3,(p.cell (p:=⟨b,off+k*2+1,nK⟩) I).trans h4,R.later p,R⟩
 clear T;by_cases t:k=g.R.length
 ·have o:g.AX k=(0,[g.s]):=by unfold Gz.AX;rw[if_pos t]
  unfold MR Gz.right;rw[o];clear h J;generalize g.R.length=nR at *;subst t;generalize g.nt=nt at *;generalize g.nn=nn at *;generalize g.s=C at *;go_enter func80,ntmps80
  go_wp2_with fail
  refine bodyPost_ret (Mi rfl rfl (MM (b:=w.heap.size+1) (u:=nE nM 0) (rv:=nC (w.heap.size+1+1,0) 1 1) ?_ ?_)) rfl ?_
  ·exact(Ah.alloc (Ah.newAt mV) _).cell 0
  ·exact(Ah.alloc (Ah.newAt mV) _).cell 1
  ·refine⟨_,rfl,?_,((AE w _).alloc mV _).alloc mX _,fun h=>absurd h (Nat.lt_irrefl _),fun _=>⟨_,rfl,mR,_,Ah.newAt mV⟩⟩
   refine G4 (B:=0) (l:=[C]) ?_ mV;refine⟨rfl,.inr ⟨w.heap.size+1+1,1,#[C],rfl,A0 _,?_,mV,mT,rfl,rfl⟩⟩;exact Ah.newAt mV
 ·obtain⟨r,j⟩:∃r,g.R[k]?=nJ r:=⟨_,eG mR⟩
  obtain⟨b,off,i,rfl,hb,c0,c1,P,U⟩:=J k r j;have o:g.AX k=r:=by unfold Gz.AX;rw[if_neg t,dG,j];rfl
  unfold MR Gz.right;rw[o];have HN:=Hd P;have a0:=Hd U;obtain⟨⟨ra,rc,rfl,-⟩,-,-⟩:=id P;have a2:k<g.R.length:=by omega
  clear h J P j o U;obtain⟨rl,rr⟩:=r;simp only at *;generalize rr.length=rn at *;generalize g.R.length=nR at *;generalize g.nt=nt at *;generalize g.nn=nn at *;generalize g.s=C at *;go_enter func80,ntmps80
  go_wp2_with fail
  refine bodyPost_ret (Mi rfl rfl (MM (b:=w.heap.size+1) (u:=nE nM rl) (rv:=nC ra rn rc) ?_ ?_)) rfl ?_
  ·exact(Ah.newAt mV).cell 0
  ·exact(Ah.newAt mV).cell 1
  ·exact⟨_,rfl,HN.later (((AE w _).alloc mV _)),((AE w _).alloc mV _),fun _=>a0,fun h=>absurd h t⟩
def L9:El Tryz.prog 98 34 1 24:=El.of (z:=nC nK 0 0) underlying98 mU rfl mT
def VT:El Tryz.prog 282 287 2 16:=El.of (z:=.agg #[nF nK,nI false]) underlying282 mU rfl mT
def Ww:El Tryz.prog 248 282 1 24:=El.of (z:=nC nK 0 0) underlying248 mU rfl mT
abbrev EH(v p rv tlv t cv j i l o:nU):Array nU:=v.cells++#[p,rv,tlv,t,cv,j,i,l,o]
def Gz.GZ(g:Gz)(k s:Nat):List Nat:=(List.range k).filter fun i=>(g.R.getD i (0,[])).1==s
def YW(g:Gz)(s:Nat):g.GZ g.R.length s=g.CF s:=rfl
def Qm(g:Gz)(k s:Nat):g.GZ (k+1) s=if (g.R.getD k (0,[])).1=s then g.GZ k s++[k] else g.GZ k s:=by
 unfold Gz.GZ;rw[List.range_succ,List.filter_append];by_cases h:(g.R.getD k (0,[])).1=s
 ·have i:((g.R.getD k (0,[])).1==s)=true:=beq_iff_eq.2 h
  rw[if_pos h];simp only[List.filter_cons,i,List.filter_nil,if_true]
 ·have i:((g.R.getD k (0,[])).1==s)=false:=beq_false_of_ne h
  rw[if_neg h];simp only[List.filter_cons,i,List.filter_nil,Bool.false_eq_true,if_false,List.append_nil]
def iI(g:Gz)(k s:Nat):(g.GZ k s).length<=k:=by unfold Gz.GZ;have:=List.length_filter_le (fun i=>(g.R.getD i (0,[])).1==s) (List.range k);rwa [List.length_range]at this
def bO{g:Gz}{k N:Nat}(I:(g.R.getD k (0,[])).1=s):((List.range N).map (g.GZ k)).set s (g.GZ k s++[k])=(List.range N).map (g.GZ (k+1)):=by
 apply List.ext_getElem?;intro i;rw[List.getElem?_set];by_cases p:s=i
 ·subst p
  rw[if_pos rfl,lM,List.length_range,pG];by_cases l:s<N
  ·rw[if_pos l,List.getElem?_range l,Option.map_some,Qm,if_pos I]
  ·rw[if_neg l,nG mX];rfl
 ·rw[if_neg p,pG,pG]
  cases J:(List.range N)[i]? with
  | none=>rfl
  | some j=>
   have t:j=i:=by obtain⟨P,o⟩:=sG.1 J;rw[List.getElem_range]at o;exact o.symm
   subst t;rw[Option.map_some,Option.map_some,Qm,if_neg mR]
def BX.mono{A:Nat->Prop}{w:nS}{v:nU}{l:List Nat}(h:BX A w v l)(i:∀b,A b->A' b):BX A' w v l:=⟨h.1,fun b j o=>i b (h.2 b j o)⟩
def Bo.mono{A:Nat->Prop}{w:nS}{v:nU}{n sz:Nat}{f':Nat->Nat->nU->Prop}(h:Bo A w v n sz f)(I:∀b,A b->A' b)(U:∀k j x,k<n->j<sz->f k j x->f' k j x):Bo A' w v n sz f':=by obtain⟨o,c,hv,hn,hm,hr⟩:=h;refine⟨o,c,hv,hn,hm,fun k l=>?_⟩;obtain⟨b,off,J,P,a0,hx⟩:=hr k l;refine⟨b,off,J,I b P,a0,fun j i=>?_⟩;obtain⟨x,p,t⟩:=hx j i;exact⟨x,p,U k j x l i t⟩
def Dl.mono{A:Nat->Prop}{w:nS}{v:nU}{n:Nat}{f:Nat->List Nat}(h:Dl A w v n f)(i:∀b,A b->A' b):Dl A' w v n f:=Bo.mono h i (fun k j x _ _ l=>l.mono i)
def Fi.mono{A:Nat->Prop}{w:nS}{v:nU}(h:Fi A w m v l)(i:∀b,A b->A' b):Fi A' w m v l:=Bo.mono h i (fun k j x _ _ p=>by
 split at p
 ·rename_i o
  rw[if_pos o];obtain⟨h,t,I,J,P,U⟩:=p;exact⟨h,t,I,J,i _ P,i _ U⟩
 ·rename_i o
  rw[if_neg o];exact p)
def FY.mono{A:Nat->Prop}{w:nS}{v:nU}{n:Nat}{T:List (List (Nat×Bool))}(h:FY A w m v n T)(i:∀b,A b->A' b):FY A' w m v n T:=Bo.mono h i (fun k j x _ _ l=>l.mono i)
def DZ.mono{A:Nat->Prop}{w:nS}{v:nU}{l:List AZ}(h:DZ A w m v l)(j:∀b,A b->A' b):DZ A' w m v l:=Bo.mono h j (fun k a0 x _ _ i=>by
 split at i
 ·rename_i o
  rw[if_pos o];exact i
 ·rename_i o
  rw[if_neg o];split at i
  ·rename_i p
   rw[if_pos p];obtain⟨h,t,I,J,P,U⟩:=i;exact⟨h,t,I,J,j _ P,j _ U⟩
  ·rename_i p
   rw[if_neg p];exact i)
def EZ{w:nS}{B:Nat}{size n:Nat}{v:nU}{xs:List nU}(h:w.ownsRow B e size v n xs)(j:∀b cs,Ah w b e cs->¬X b):∀k,v.ownBlock=nJ k->¬X k:=by
 intro k i;rcases Bg h with⟨rfl,_⟩|⟨b,c,rfl,_,_,_,_,o,l⟩
 ·cases i
 ·cases i
  exact j _ _ l
def Bo.Mc{A:Nat->Prop}{w:nS}{B:Nat}{n:Nat}{v:nU}{XS:List nU}(h:w.ownsRow B e 1 v n XS)(U:n<=1000000)(I:∀b,B<=b->b<w.heap.size->A b)(J:∀i x,XS[i]?=nJ x->f i 0 x):Bo A w v n 1 f:=by
 rcases Bg h with⟨rfl,rfl⟩|⟨b,c,rfl,p,l,t,_,_⟩
 ·exact⟨nK,0,rfl,AF _,mR,fun k P=>by omega⟩
 ·refine⟨_,c,rfl,t,U,fun k P=>⟨b,0,rfl,I b p l,l,fun j hj=>?_⟩⟩
  obtain rfl:j=0:=by omega
  have hl:=h.1;have o:XS[k]?=nJ (XS[k]'(by omega)):=eG mR;refine⟨_,?_,J k _ o⟩;rw[Nat.zero_add,Nat.add_zero,Nat.mul_one,Bb h k mR,o]
section
variable {w0 w w':nS} {F:Fs} {g:Gz} {E:Nat} {C:List Nat}
def BB.T5(h:BB w0 w F g E C)(j:Aj X w w')(I:∀b,X b->w0.heap.size<=b/\∃t cs,Ah w b t cs/\t≠328/\t≠296/\t≠291/\t≠254):BB w0 w' F g E C:=by
 have key:∀{b:Nat} {t:TypeId} {cs:Array nU},Ah w b t cs->(t=328\/t=296\/t=291\/t=254)->¬X b:=fun i U p=>by
  obtain⟨_,t',a2,l,n1,n2,n3,n4⟩:=I _ p;rcases U with rfl|rfl|rfl|rfl
  ·exact Ah.Bh i l (Ne.symm n1) rfl
  ·exact Ah.Bh i l (Ne.symm n2) rfl
  ·exact Ah.Bh i l (Ne.symm n3) rfl
  ·exact Ah.Bh i l (Ne.symm n4) rfl
 have J:∀{s:AH} {S:Nat},AU w s S->AU w' s S:=fun o=>o.Ay j (key o.head (.inr (.inl rfl))) (key o.words (.inr (.inr (.inl rfl))))
 refine⟨⟨j.Ap h.at_.Ap (key h.at_.Ap (.inl rfl)),J h.at_.e,h.at_.en,h.at_.Ii,j.own h.at_.bv (EZ h.at_.bv fun b cs i=>key i (.inr (.inr (.inr rfl)))),j.own h.at_.hv (EZ h.at_.hv fun b cs i=>key i (.inr (.inr (.inr rfl)))),h.at_.top⟩,⟨h.AP.len,h.AP.room,fun a0 a1 P=>J (h.AP.at_ a0 a1 P),h.AP.apart⟩,h.ne,h.new,h.below.trans (j.below h.below.size fun k hk p=>by have:=(I k p).1;omega)⟩
def BB.BC{j:nS}(h:BB w j F g E C)(i:Below w0 w0 w):BB w0 j F g E C:=by have o:=i.size;obtain⟨I,J,P,t⟩:=h.new;exact⟨h.at_,h.AP,h.ne,⟨mR,mR,mR,fun p l=>by have:=t p l;omega⟩,i.trans (h.below.mono o)⟩
end
def QM(w0 w wr:nS)(k n b:Nat):Prop:=b<w0.heap.size\/(n<k/\w.heap.size<=b/\∃i,Ah wr b 3 i)
def Kd(lo j:Nat)(wr:nS)(b:Nat):Prop:=lo<=b/\b<j/\∃t i,Ah wr b t i/\(t=287\/t=296\/t=291)
structure JO(w0 w wr:nS)(F:Fs)(g:Gz)(E:Nat)(C:List Nat)(RV TV:List nU)(T:List (List (Nat×Bool))):Prop where
 below:Below w0 w0 wr
 size:w.heap.size<=wr.heap.size
 base:w0.heap.size<=w.heap.size
 fst:BB w0 wr F g E C
 Hb:∀(i:Nat) (x:nU),RV[i]?=nJ x->BX (QM w0 w wr RV.length g.R.length) wr x (g.right i)
 Jw:∀(i:Nat) (x:nU),TV[i]?=nJ x->Fi (Kd w.heap.size wr.heap.size wr) wr (g.nt+1) x (T.getD i [])
section
variable {w0 w wr w2 w3:nS} {F:Fs} {g:Gz} {E:Nat} {C:List Nat} {RV TV:List nU} {T:List (List (Nat×Bool))}
def JO.Bu(h:JO w0 w wr F g E C RV TV T)(p:Aj X wr w2)(P:∀b,X b->w0.heap.size<=b/\∃t cs,Ah wr b t cs/\t≠328/\t≠296/\t≠291/\t≠254/\t≠287/\(t=3->RV.length<=g.R.length)):JO w0 w w2 F g E C RV TV T:=by
 have hs:=p.size;have a4:=h.size;refine⟨h.below.trans (p.below h.below.size fun k hk l=>by have:=(P k l).1;omega),mR,h.base,h.fst.T5 p fun b i=>?_,fun a0 x l=>?_,fun a0 x l=>?_⟩
 ·obtain⟨h1,t,cs,o,n1,n2,n3,n4,_⟩:=P b i
  exact⟨h1,t,cs,o,n1,n2,n3,n4⟩
 ·have no:∀b,QM w0 w wr RV.length g.R.length b->¬X b:=fun b i l=>by
   obtain⟨h1,t,cs,o,_,_,_,_,_,n6⟩:=P b l;rcases i with i|⟨U,a3,J,j⟩
   ·omega
   ·by_cases I:t=3
    ·have:=n6 I;omega
    ·exact Ah.Bh o j I rfl
  refine((h.Hb a0 x l).Ay p no).mono fun b i=>?_
  rcases id i with U|⟨U,a3,J,j⟩
  ·exact .inl U
  ·exact .inr ⟨U,a3,J,p.Ap j (no b i)⟩
 ·have no:∀b,Kd w.heap.size wr.heap.size wr b->¬X b:=fun b i l=>by
   obtain⟨h1,t,cs,o,n1,n2,n3,n4,n5,n6⟩:=P b l;obtain⟨_,_,t',J,j,I⟩:=i;rcases I with rfl|rfl|rfl
   ·exact Ah.Bh o j n5 rfl
   ·exact Ah.Bh o j n2 rfl
   ·exact Ah.Bh o j n3 rfl
  refine((h.Jw a0 x l).Ay p no).mono fun b i=>?_
  obtain⟨a1,a2,t',J,j,I⟩:=id i;exact⟨a1,mR,t',J,p.Ap j (no b i),I⟩
def JO.later(h:JO w0 w wr F g E C RV TV T)(i:Below wr wr w2):JO w0 w w2 F g E C RV TV T:=h.Bu (X:=fun _=>False) (Aj.AJ i) (fun b i=>i.elim)
structure Cq(w0 w wr:nS)(F:Fs)(g:Gz)(E:Nat)(C:List Nat)(rv tlv:nU)(ub uc kr:Nat)(RV TV:List nU)(R:List (nU×List Nat))(T:List (List (Nat×Bool))):Prop where
 CM:JO w0 w wr F g E C RV TV T
 Hu:wr.ownsRow w 34 1 rv RV.length RV
 AP:ES wr w.heap.size ub (g.top+1) uc R
 lists:R.map (·.2)=(List.range (g.top+1)).map (g.GZ kr)
 Hi:wr.ownsRow w 282 1 tlv TV.length TV
 ne:rv.ownBlock≠nJ ub
variable {rv tlv:nU} {ub uc kr:Nat} {R:List (nU×List Nat)}
def Cq.later(h:Cq w0 w wr F g E C rv tlv ub uc kr RV TV R T)(i:Below wr wr w2):Cq w0 w w2 F g E C rv tlv ub uc kr RV TV R T:=
 ⟨h.CM.later i,AV h.Hu i,h.AP.later i,h.lists,AV h.Hi i,h.ne⟩
def Cq.Vf(h:Cq w0 w wr F g E C rv tlv ub uc kr RV TV R T){mb:Nat}{t:TypeId}(o:Ah wr mb t cs)(h0:w0.heap.size<=mb)(n1:t≠328)(n2:t≠296)(n3:t≠291)(n4:t≠254)(n5:t≠287)(n6:t≠3)(p:t≠34)(n8:t≠282)(j:Nat)(u:nU):Cq w0 w (wr.setCell (mb,j) u) F g E C rv tlv ub uc kr RV TV R T:=by
 have l:Aj (·=mb) wr (wr.setCell (mb,j) u):=Aj.set (X:=(·=mb)) (Aj.refl _ wr) (p:=⟨mb,j,nK⟩) (.inr rfl) _;have no:∀{b:Nat} {I:TypeId} {cs:Array nU},Ah wr b I cs->t≠I->¬b=mb:=fun i P e=>by subst e;exact Ah.Bh o i P rfl
 refine⟨h.CM.Bu l fun b i=>?_,l.own h.Hu (EZ h.Hu fun b cs i=>no i p),h.AP.Ay l ?_ (fun k x U=>EZ (h.AP.own k x U) fun b cs i=>no i n6),h.lists,l.own h.Hi (EZ h.Hi fun b cs i=>no i n8),h.ne⟩
 ·subst i
  exact⟨h0,_,_,o,n1,n2,n3,n4,n5,fun e=>absurd e n6⟩
 ·obtain⟨a0,J⟩:=h.AP.Ap
  exact no J p
def Cq.BC(h:Cq w0 w wr F g E C rv tlv ub uc kr RV TV R T){mb:Nat}(i:Ah wr mb 253 cs)(h0:w0.heap.size<=mb)(j:Nat)(u:nU):Cq w0 w (wr.setCell (mb,j) u) F g E C rv tlv ub uc kr RV TV R T:=
 h.Vf i h0 mT mT mT mT mT mT mT mT j u
def Cq.YR(h:Cq w0 w wr F g E C rv tlv ub uc kr RV TV R T)(hk:RV.length<=g.R.length){x:nU}{c:Nat}(r1:w3.ownsRow w 34 1 (nC A (RV.length+1) c) (RV.length+1) (RV++[x]))(r3:wr.grownBy w3 rv.ownBlock/\((Value.slice A (RV.length+1) c).ownBlock=rv.ownBlock\/(Value.slice A (RV.length+1) c).ownBlock=nJ wr.heap.size))
  (U:Bv wr x (g.right RV.length)) (aa:RV.length<g.R.length->Bv w0 x (g.right RV.length)) (ab:RV.length=g.R.length->∃b,x=nC (nJ ⟨b,0,nK⟩) 1 1/\w.heap.size<=b/\∃cs,Ah wr b 3 cs):Cq w0 w w3 F g E C (nC A (RV.length+1) c) tlv ub uc kr (RV++[x]) TV R T:=by
 have p:Aj (fun k=>rv.ownBlock=nJ k) wr w3:=Aj.Cy r3.1;have hX:∀b,rv.ownBlock=nJ b->w0.heap.size<=b/\∃cs,Ah wr b 34 cs:=fun b i=>by
  rcases Bg h.Hu with⟨l,_⟩|⟨b',c',l,o,_,_,_,a1,h3⟩
  ·rw[l]at i;cases i
  ·rw[l]at i
   have e:b'=b:=by simpa [Value.ownBlock] using i
   subst e;exact⟨AY h.CM.base o,a1,h3⟩
 have no:∀{b:Nat} {a2:TypeId} {cs:Array nU},Ah wr b a2 cs->a2≠34->¬rv.ownBlock=nJ b:=fun i ht e=>by obtain⟨_,cs,o⟩:=hX _ e;exact Ah.Bh i o ht rfl
 have j:=h.CM.Bu p fun b i=>by obtain⟨l,cs,o⟩:=hX b i;exact⟨l,_,cs,o,mT,mT,mT,mT,mT,fun e=>by cases e⟩
 obtain⟨a1,a7⟩:=h.AP.Ap;refine⟨⟨j.below,j.size,j.base,j.fst,fun a0 y I=>?_,j.Jw⟩,by simpa using r1,h.AP.Ay p (fun e=>h.ne e) (fun k x U=>EZ (h.AP.own k x U) fun b cs i=>no i mT),h.lists,p.own h.Hi (EZ h.Hi fun b cs i=>no i mT),?_⟩
 ·by_cases hi:a0<RV.length
  ·rw[gL hi]at I
   refine(j.Hb a0 y I).mono fun b i=>?_
   rcases i with i|⟨l,_⟩
   ·exact .inl i
   ·omega
  ·have P:=(sG.1 I).1
   simp at P;obtain rfl:a0=RV.length:=by omega
   simp at I;subst I;rcases Nat.lt_or_ge RV.length g.R.length with a8|ad
   ·have h0:=aa a8
    refine⟨h0.later j.below,fun b i P=>.inl ?_⟩;obtain⟨⟨Ad,c',hv,a6⟩,_,_⟩:=h0;obtain⟨b2,off,a3,ae,_⟩:=a6 0 _ (eG P);rw[hv,a3]at i;have e:b2=b:=by simpa [Value.ownBlock] using i
    omega
   ·obtain⟨b,rfl,a4,cs,J⟩:=ab mR
    have a5:=p.Ap J (no J mT);have a9:BX (fun q=>q=b) wr (nC (nJ ⟨b,0,nK⟩) 1 1) (g.right RV.length):=⟨U,fun q t _=>by
     have e:b=q:=by simpa [Value.ownBlock] using t
     exact e.symm⟩
    refine(a9.Ay p fun q t=>by subst t;exact no J mT).mono fun q t=>?_
    subst t;exact .inr ⟨mX,a4,cs,a5⟩
 ·rcases r3.2 with e|e
  ·rw[e];exact h.ne
  ·rw[e]
   intro e2;have e3:wr.heap.size=ub:=by simpa using e2
   have:=a7.lt;omega
def Cq.Yl(h:Cq w0 w wr F g E C rv tlv ub uc kr RV TV R T)(U:RV.length<=g.R.length){x:nU×List Nat}(hx:R[s]?=nJ x)(hs:(g.R.getD kr (0,[])).1=s)(hW:Below wr wr W)
  (r1:w3.ownsRow w 3 1 nv (x.2.length+1) (x.2.map AS++[nE nM (kr:Nat)])) (r2:AI w [3] W w3) (r3:W.grownBy w3 x.1.ownBlock/\(nv.ownBlock=x.1.ownBlock\/nv.ownBlock=nJ W.heap.size)):∃R',Cq w0 w (w3.setCell (ub,s) nv) F g E C rv tlv ub uc (kr+1) RV TV R' T:=by
 have p:=h.later hW;have I:Aj (fun k=>x.1.ownBlock=nJ k) W w3:=Aj.Cy r3.1;have a5:=p.AP.own s x hx;have hX:∀b,x.1.ownBlock=nJ b->w0.heap.size<=b/\∃j,Ah W b 3 j:=fun b i=>by
  rcases Bg a5 with⟨t,_⟩|⟨b',c',t,l,_,_,_,J,o⟩
  ·rw[t]at i;cases i
  ·rw[t]at i
   have e:b'=b:=by simpa [Value.ownBlock] using i
   subst e;exact⟨AY h.CM.base l,J,o⟩
 have no:∀{b:Nat} {a3:TypeId} {j:Array nU},Ah W b a3 j->a3≠3->¬x.1.ownBlock=nJ b:=fun i ht e=>by obtain⟨_,j,l⟩:=hX _ e;exact Ah.Bh i l ht rfl
 have hf:=p.CM.Bu I fun b i=>by obtain⟨t,j,l⟩:=hX b i;exact⟨t,_,j,l,mT,mT,mT,mT,mT,fun _=>U⟩
 have a4:=h.AP.put hW hx (nv:=nv) (l:=x.2++[kr]) (by rw[BS,Bz];exact r1) r2 r3;obtain⟨J,a0⟩:=p.AP.Ap;have a7:w.heap.size<=ub:=(BR h.AP.row ub rfl).2;have a1:Ah w3 ub 34 J:=I.Ap a0 (no a0 mT);have P:Aj (·=ub) w3 (w3.setCell (ub,s) nv):=Aj.set (X:=(·=ub)) (Aj.refl _ w3) (p:=⟨ub,s,nK⟩) (.inr rfl) _;have a6:=I.own p.Hu (EZ p.Hu fun b j i=>no i mT);have a2:=I.own p.Hi (EZ p.Hi fun b j i=>no i mT);refine⟨R.set s (nv,x.2++[kr]),hf.Bu P fun b i=>?_,P.own a6 (fun k U e=>h.ne (by rw[U,e])),a4,?_,P.own a2 (EZ a2 fun b j i e=>by subst e;exact Ah.Bh i a1 mT rfl),h.ne⟩
 ·subst i
  have:=h.CM.base;exact⟨mR,_,_,a1,mT,mT,mT,mT,mT,fun e=>by cases e⟩
 ·have l:x.2=g.GZ kr s:=by
   have o:(R.map (·.2))[s]?=nJ x.2:=by rw[pG,hx];rfl
   rw[h.lists,pG]at o;cases hq:(List.range (g.top+1))[s]? with
   | none=>rw[hq]at o;cases o
   | some a8=>rw[hq]at o;obtain⟨h4,h5⟩:=sG.1 hq;rw[List.getElem_range]at h5;subst h5;simpa using o.symm
  rw[List.map_set,h.lists,<-bO hs,l]
def Cq.Ln(h:Cq w0 w wr F g E C rv tlv ub uc kr RV TV R T){x:nU}{c:Nat}(r1:w3.ownsRow w 282 1 (nC A (TV.length+1) c) (TV.length+1) (TV++[x]))(r3:wr.grownBy w3 tlv.ownBlock)
  (hx:Fi (Kd w.heap.size wr.heap.size wr) wr (g.nt+1) x l) (hT:T.length=TV.length):Cq w0 w w3 F g E C rv (nC A (TV.length+1) c) ub uc kr RV (TV++[x]) R (T++[l]):=by
 have o:Aj (fun k=>tlv.ownBlock=nJ k) wr w3:=Aj.Cy r3;have hX:∀b,tlv.ownBlock=nJ b->w0.heap.size<=b/\∃j,Ah wr b 282 j:=fun b i=>by
  rcases Bg h.Hi with⟨t,_⟩|⟨b',c',t,I,_,_,_,a4,h3⟩
  ·rw[t]at i;cases i
  ·rw[t]at i
   have e:b'=b:=by simpa [Value.ownBlock] using i
   subst e;exact⟨AY h.CM.base I,a4,h3⟩
 have no:∀{b:Nat} {a6:TypeId} {j:Array nU},Ah wr b a6 j->a6≠282->¬tlv.ownBlock=nJ b:=fun i P e=>by obtain⟨_,j,I⟩:=hX _ e;exact Ah.Bh i I P rfl
 have p:=h.CM.Bu o fun b i=>by obtain⟨t,j,I⟩:=hX b i;exact⟨t,_,j,I,mT,mT,mT,mT,mT,fun e=>by cases e⟩
 obtain⟨a4,a7⟩:=h.AP.Ap;refine⟨⟨p.below,p.size,p.base,p.fst,p.Hb,fun a0 y U=>?_⟩,o.own h.Hu (EZ h.Hu fun b j i=>no i mT),h.AP.Ay o (no a7 mT) (fun k x hx=>EZ (h.AP.own k x hx) fun b j i=>no i mT),h.lists,by simpa using r1,h.ne⟩;by_cases hi:a0<TV.length
 ·rw[gL hi]at U
  rw[dG,gL mR,<-dG];exact p.Jw a0 y U
 ·have hl:=(sG.1 U).1
  simp at hl;obtain rfl:a0=TV.length:=by omega
  simp at U;subst U;rw[dG,<-hT];simp only[List.getElem?_concat_length,Option.getD_some];have a5:∀b,Kd w.heap.size wr.heap.size wr b->¬tlv.ownBlock=nJ b:=fun b i=>by
   obtain⟨_,_,t',a3,J,P⟩:=i;rcases P with rfl|rfl|rfl
   ·exact no J mT
   ·exact no J mT
   ·exact no J mT
  have hs:=o.size;refine(hx.Ay o a5).mono fun b i=>?_
  obtain⟨a1,a2,t',a3,J,P⟩:=id i;exact⟨a1,mR,t',a3,o.Ap J (a5 b i),P⟩
def Ho(w0 w wr:nS)(b:Nat):Prop:=(b<w0.heap.size\/w.heap.size<=b)/\b<wr.heap.size
def Cq.done(h:Cq w0 w wr F g E C rv tlv ub uc g.R.length RV TV R T)(h1:RV.length=g.R.length+1)(h2:TV.length=g.R.length+1)(hn:g.R.length<=300)(ht:g.top<=1000) :
  Dl (Ho w0 w wr) wr rv (g.R.length+1) g.right/\FY (Ho w0 w wr) wr (g.nt+1) tlv (g.R.length+1) T/\Dl (Ho w0 w wr) wr (nC (ub,0) (g.top+1) uc) (g.top+1) g.CF:=by
 have o:∀b,w.heap.size<=b->b<wr.heap.size->Ho w0 w wr b:=fun b I J=>⟨.inr I,J⟩
 have r1:=h.Hu;have r2:=h.Hi;rw[h1]at r1;rw[h2]at r2;have a1:=h.CM.below.size;refine⟨Bo.Mc r1 mR o fun i x l=>(h.CM.Hb i x l).mono fun b j=>?_,Bo.Mc r2 mR o fun i x l=>(h.CM.Jw i x l).mono fun b j=>o b j.1 j.2.1,Bo.Mc h.AP.row mR o fun i x l=>?_⟩
 ·rcases j with j|⟨_,j,cs,a0⟩
  ·exact⟨.inl j,mR⟩
  ·exact o b j a0.lt
 ·rw[pG]at l
  cases t:R[i]? with
  | none=>rw[t]at l;cases l
  | some y=>
   rw[t]at l;cases l
   have ho:=h.AP.own i y t;have p:(R.map (·.2))[i]?=nJ y.2:=by rw[pG,t];rfl
   rw[h.lists,pG]at p;have P:y.2=g.CF i:=by
    cases U:(List.range (g.top+1))[i]? with
    | none=>rw[U]at p;cases p
    | some a3=>rw[U]at p;obtain⟨P,h5⟩:=sG.1 U;rw[List.getElem_range]at h5;subst h5;rw[<-YW];simpa using p.symm
   have a2:y.2.length<=300:=by rw[P];exact AY (Lh g i) hn
   show BX _ wr y.1 (g.CF i);rw[<-P];refine⟨G4 ho mR,fun b j _=>?_⟩;obtain⟨I,J⟩:=BR ho b j;exact o b J I
end
variable{T:List TypeId}
def O2:El Tryz.prog 251 299 4 32:=El.of (z:=.agg #[nE nM 0,nE nM 0,nF nK,nI false]) underlying251 mU rfl mT
def dH:El Tryz.prog 305 307 2 16:=El.of (z:=.agg #[nE nM 0,nE nM 0]) underlying305 mU rfl mT
structure EK(w:nS)(B1 B g n c:Nat)(R:List (nU×List It)):Prop where
 row:w.ownsRow B1 305 1 (nC (g,0) n c) n (R.map (·.1))
 own:∀(k:Nat) (x:nU×List It),R[k]?=nJ x->w.ownsRow B 307 2 x.1 x.2.length (x.2.flatMap Bf)
 apart:∀(i j:Nat) (x y:nU×List It),R[i]?=nJ x->R[j]?=nJ y->i≠j->∀k,x.1.ownBlock=nJ k->y.1.ownBlock≠nJ k
variable{w:nS}{B i:Nat}{R:List (nU×List It)}{x:It}
def EK.len{g n c:Nat}(h:EK w i B g n c R):R.length=n:=by have:=h.row.1;simpa using this
def EK.later{g n c:Nat}(h:EK w i B g n c R)(j:Below w w w'):EK w' i B g n c R:=
 ⟨AV h.row j,fun k x l=>AV (h.own k x l) j,h.apart⟩
def EK.Ay{g n c:Nat}(h:EK w i B g n c R)(j:Aj X w w')(p:¬X g)(o:∀(k:Nat) (x:nU×List It),R[k]?=nJ x->∀b,x.1.ownBlock=nJ b->¬X b):EK w' i B g n c R:=
 ⟨j.own h.row (fun k t=>by cases t;exact p),fun k x l=>j.own (h.own k x l) (o k x l),h.apart⟩
def EK.Ap{l g n c:Nat}(h:EK w l B g n c R):∃i,Ah w g 305 i:=by
 rcases h.row.2 with⟨j,_⟩|⟨p,cap,i,j,t,o,_⟩
 ·cases j
 ·cases j;exact⟨i,o⟩
def EK.put{w3:nS}{B1 g n c:Nat}(h:EK w B1 B g n c R)(hW:Below w w W){x:nU×List It}(hx:R[s]?=nJ x){l:List It}
  (r1:w3.ownsRow B 307 2 nv l.length (l.flatMap Bf)) (r2:AI B [307] W w3) (r3:W.grownBy w3 x.1.ownBlock/\(nv.ownBlock=x.1.ownBlock\/nv.ownBlock=nJ W.heap.size)):EK (w3.setCell (g,s) nv) B1 B g n c (R.set s (nv,l)):=by
 have p:=h.later hW;obtain⟨U,a9⟩:=sG.1 hx;have a8:=h.len;obtain⟨a7,a4⟩:=p.Ap;have a2:=r2.Ap a4 (.inr mT);have hc:Aj (·=g) w3 (w3.setCell (g,s) nv):=Aj.set (X:=(·=g)) (Aj.refl _ w3) (p:=⟨g,s,nK⟩) (.inr rfl) _;have a5:=r2.own p.row (.inr mT);refine⟨?_,?_,?_⟩
 ·have:=Gl a5 s mR nv
  rw[List.map_set];exact this
 ·intro k y j
  by_cases T:k=s
  ·subst T
   rw[tG U]at j;cases j
   exact hc.own r1 (Ft r1 a2 mT)
  ·rw[uG (fun e=>T e.symm)]at j
   have a6:=p.own k y j;have a3:w3.ownsRow B 307 2 y.1 y.2.length (y.2.flatMap Bf):=(Aj.Cy r3.1).own a6 (fun b i he=>h.apart s k x y hx j (fun e=>T e.symm) b he i);exact hc.own a3 (Ft a3 a2 mT)
 ·intro a0 a1 a b ha i J k t C
  have key:∀(m:Nat) (y:nU×List It),R[m]?=nJ y->m≠s->∀k,nv.ownBlock=nJ k->y.1.ownBlock≠nJ k:=fun m y j hm k o h2=>by
   rcases r3.2 with e|e
   ·rw[e]at o
    exact h.apart s m x y hx j (fun e=>hm e.symm) k o h2
   ·rw[e]at o
    cases o
    have:=(BR (p.own m y j) _ h2).1;omega
  by_cases I:a0=s
  ·subst I
   rw[tG U]at ha;cases ha
   rw[uG J]at i;exact key a1 b i (fun e=>J e.symm) k t C
  ·rw[uG (fun e=>I e.symm)]at ha
   by_cases hj:a1=s
   ·subst hj
    rw[tG U]at i;cases i
    exact key a0 a ha I k C t
   ·rw[uG (fun e=>hj e.symm)]at i
    exact h.apart a0 a1 a b ha i J k t C
def AI.Ay(h:AI B T w w'):Aj (fun b=>B<=b) w w':=⟨h.os,h.tape,h.output,h.size,fun k i j=>h.block k i (.inl mR)⟩
def XL(mb fb z:Nat)(b:Nat):Prop:=b=mb\/b=fb\/z<=b
def Sx(mb fb z:Nat)(b:Nat):Prop:=b<z/\b≠mb/\b≠fb
def Sx.no{mb fb z b:Nat}(h:Sx mb fb z b):¬XL mb fb z b:=by
 obtain⟨l,i,j⟩:=h;rintro(e|e|e)
 ·exact i e
 ·exact j e
 ·omega
def hV(h:Option AH):nU:=match h with|none=>nF nK|some s=>s.v
def DB(z:Option AH×Edge):List nU:=[nE nM (z.2.dst:Nat),nE nM (z.2.at_:Nat),hV z.1,nI z.2.self]
def Cl(w:nS)(m:Nat)(P:List AH)(h:Option AH)(S:Nat):Prop:=match h with|none=>S=0|some s=>AU w s S/\s.n=m/\∀p∈P,s.wb≠p.wb
theorem Cl.later{P:List AH}{S:Nat}(k:Cl w m P h S)(i:Below w w w'):Cl w' m P h S:=by
 cases h with
 | none=>exact k
 | some s=>exact⟨k.1.later i,k.2⟩
theorem Cl.keeps{P:List AH}{S:Nat}(k:Cl w m P h S)(l:AI B T w w')(i:296 ∉ T)(j:291 ∉ T):Cl w' m P h S:=by
 cases h with
 | none=>exact k
 | some s=>exact⟨k.1.keeps l i j,k.2⟩
theorem Cl.push{P:List AH}{S:Nat}(k:Cl w m P h S)(j:Below w w w')(o:w.heap.size<=t.wb):Cl w' m (P++[t]) h S:=by
 cases h with
 | none=>exact k
 | some s=>
  refine⟨k.1.later j,k.2.1,fun p l=>?_⟩;rcases mA.1 l with i|i
  ·exact k.2.2 p i
  ·rw[mS.1 i]
   have:=k.1.words.lt;omega
structure Mk(w1 w3 wr:nS)(mb fb n c:Nat)(v lv rv tlv uv cv bv av ev:nU)(g:Gz)(base:List Nat)(P:List AH)(S:List Nat)(ED:List (Option AH×Edge))(FR:List (nU×List It)):Prop where
 below:Below w1 w1 wr
 vf:∃x0 x1 x2 x3,v=.agg #[x0,x1,x2,x3]
 lo:w1.heap.size<=mb/\w1.heap.size<=fb/\w1.heap.size<=w3.heap.size
 Ay:Aj (XL mb fb w3.heap.size) w3 wr
 Ap:Ah wr mb 253 (EH v lv rv tlv uv cv bv av ev (nC (fb,0) n c))
 FQ:wr.ownsRow w3 3 1 bv base.length (base.map AS)
 all:wr.ownsRow w3 254 1 av P.length (P.map AH.v)
 AP:BA wr (g.nt+1) P S
 new:∀p∈P,w3.heap.size<=p.h/\w3.heap.size<=p.wb
 Ex:wr.ownsRow w3 299 4 ev ED.length (ED.flatMap DB)
 Jy:∀z∈ED,Cl wr (g.nt+1) P z.1 z.2.set
 fin:EK wr w1.heap.size w3.heap.size fb n c FR
variable{mb:Nat}{base:List Nat}
section
variable {w1 w3 wr w2 W W2:nS} {mb fb n c:Nat} {v lv rv tlv uv cv bv av ev:nU} {g:Gz} {base:List Nat} {P:List AH} {S:List Nat} {ED:List (Option AH×Edge)} {FR:List (nU×List It)}
def Mk.later(h:Mk w1 w3 wr mb fb n c v lv rv tlv uv cv bv av ev g base P S ED FR)(i:Below wr wr w2):Mk w1 w3 w2 mb fb n c v lv rv tlv uv cv bv av ev g base P S ED FR:=
 ⟨h.below.trans (i.mono h.below.size),h.vf,h.lo,h.Ay.next (Aj.AJ i),h.Ap.below i h.Ap.lt,AV h.FQ i,AV h.all i,h.AP.later i,h.new,AV h.Ex i,fun z j=>(h.Jy z j).later i,h.fin.later i⟩
def EK.keeps{l g n c:Nat}(h:EK wr i B g n c R)(j:AI l T wr w2)(o:307 ∉ T)(p:305 ∉ T):EK w2 i B g n c R:=
 ⟨j.own h.row (.inr p),fun k x t=>j.own (h.own k x t) (.inr o),h.apart⟩
def Mk.BC(h:Mk w1 w3 wr mb fb n c v lv rv tlv uv cv bv av ev g base P S ED FR)(j:Nat)(u:nU):Aj (·=mb) wr (wr.setCell (mb,j) u)/\AI w1 [253] wr (wr.setCell (mb,j) u):=
 ⟨Aj.set (X:=(·=mb)) (Aj.refl _ wr) (p:=⟨mb,j,nK⟩) (.inr rfl) _,(AI.refl _ _ wr).EF h.Ap h.lo.1 mV j u⟩
def Mk.iY(h:Mk w1 w3 wr mb fb n c v lv rv tlv uv cv bv av ev g base P S ED FR)(j:Below wr wr W)(hs:AU W t 0)(hn:t.n=g.nt+1)(U:wr.heap.size<=t.h/\wr.heap.size<=t.wb)
  (r1:W2.ownsRow w3 254 1 (nC A (P.length+1) c2) (P.length+1) (P.map AH.v++[t.v])) (i:AI w3 [254] W W2) :
  Mk w1 w3 (W2.setCell (mb,10) (nC A (P.length+1) c2)) mb fb n c v lv rv tlv uv cv bv (nC A (P.length+1) c2) ev g base (P++[t]) (S++[0]) ED FR/\AI w1 [253,254] wr (W2.setCell (mb,10) (nC A (P.length+1) c2)) /\
  (∀(q:Option AH) (T:Nat),Cl wr (g.nt+1) P q T->Cl (W2.setCell (mb,10) (nC A (P.length+1) c2)) (g.nt+1) (P++[t]) q T):=by
 have p:=h.lo;have hz:=h.Ay.size;have l:=h.later j;have J:Ah W2 mb 253 _:=i.Ap l.Ap (.inr mT);have o:AI w1 [253] W2 (W2.setCell (mb,10) (nC A (P.length+1) c2)):=(AI.refl _ _ W2).EF J p.1 mV 10 _;have hc:Aj (·=mb) W2 (W2.setCell (mb,10) (nC A (P.length+1) c2)):=Aj.set (X:=(·=mb)) (Aj.refl _ W2) (p:=⟨mb,10,nK⟩) (.inr rfl) _;have R:∀(q:Option AH) (T:Nat),Cl wr (g.nt+1) P q T->Cl (W2.setCell (mb,10) (nC A (P.length+1) c2)) (g.nt+1) (P++[t]) q T:=fun q T hq=>((hq.push j U.2).keeps i mT mT).keeps o mT mT
 have a0:w1.heap.size<=W.heap.size:=l.below.size;refine⟨⟨(l.below.trans ((i.mono p.2.2 (T':=[254]) (fun _ h=>h)).below a0)).setCell (p:=⟨mb,10,nK⟩) p.1 _,h.vf,p,(l.Ay.next ((i.Ay).mono fun b j=>.inr (.inr j))).next (hc.mono fun b j=>.inl j),?_,o.own (i.own l.FQ (.inr mT)) (.inr mT),?_,?_,?_,o.own (i.own l.Ex (.inr mT)) (.inr mT),fun z hz=>R _ _ (h.Jy z hz),(l.fin.keeps i mT mT).keeps o mT mT⟩,?_,R⟩
 ·obtain⟨x0,x1,x2,x3,rfl⟩:=h.vf
  exact J.AW 10 _
 ·rw[Bz,BS]
  exact o.own (by simpa using r1) (.inr mT)
 ·exact((h.AP.push j hs hn U.2).keeps i mT mT).keeps o mT mT
 ·intro a1 hp
  rcases mA.1 hp with I|I
  ·exact h.new a1 I
  ·rw[mS.1 I]
   omega
 ·exact((AI.AJ j).trans (i.mono p.2.2 (fun t C=>by simp at C ⊢;exact .inr C))).trans (o.mono (AF _) (fun t C=>by simp at C ⊢;exact .inl C))
def Mk.gN(h:Mk w1 w3 wr mb fb n c v lv rv tlv uv cv bv av ev g base P S ED FR)(o:Below wr wr W){x:Nat}(U:W2.ownsRow w3 3 1 (nC A (base.length+1) c2) (base.length+1) (base.map AS++[nE nM (x:Nat)]))(j:AI w3 [3] W W2) :
  Mk w1 w3 (W2.setCell (mb,9) (nC A (base.length+1) c2)) mb fb n c v lv rv tlv uv cv (nC A (base.length+1) c2) av ev g (base++[x]) P S ED FR/\AI w1 [253,3] wr (W2.setCell (mb,9) (nC A (base.length+1) c2)):=by
 have p:=h.lo;have i:=h.later o;have I:Ah W2 mb 253 _:=j.Ap i.Ap (.inr mT);have l:AI w1 [253] W2 (W2.setCell (mb,9) (nC A (base.length+1) c2)):=(AI.refl _ _ W2).EF I p.1 mV 9 _;have J:Aj (·=mb) W2 (W2.setCell (mb,9) (nC A (base.length+1) c2)):=Aj.set (X:=(·=mb)) (Aj.refl _ W2) (p:=⟨mb,9,nK⟩) (.inr rfl) _;have R:w1.heap.size<=W.heap.size:=i.below.size;refine⟨⟨(i.below.trans ((j.mono p.2.2 (T':=[3]) (fun _ h=>h)).below R)).setCell (p:=⟨mb,9,nK⟩) p.1 _,h.vf,p,(i.Ay.next ((j.Ay).mono fun b o=>.inr (.inr o))).next (J.mono fun b o=>.inl o),?_,?_,l.own (j.own i.all (.inr mT)) (.inr mT),(i.AP.keeps j mT mT).keeps l mT mT,h.new,l.own (j.own i.Ex (.inr mT)) (.inr mT),fun z T=>((i.Jy z T).keeps j mT mT).keeps l mT mT,(i.fin.keeps j mT mT).keeps l mT mT⟩,?_⟩
 ·obtain⟨x0,x1,x2,x3,rfl⟩:=h.vf
  exact I.AW 9 _
 ·rw[Bz,BS]
  exact l.own U (.inr mT)
 ·exact((AI.AJ o).trans (j.mono p.2.2 (fun t C=>by simp at C ⊢;exact .inr C))).trans (l.mono (AF _) (fun t C=>by simp at C ⊢;exact .inl C))
def Mk.LI(h:Mk w1 w3 wr mb fb n c v lv rv tlv uv cv bv av ev g base P S ED FR)(o:Below wr wr W){x:Option AH×Edge}(T:Cl wr (g.nt+1) P x.1 x.2.set)(r1:W2.ownsRow w3 299 4 (nC A (ED.length+1) c2) (ED.length+1) (ED.flatMap DB++DB x))(i:AI w3 [299] W W2) :
  Mk w1 w3 (W2.setCell (mb,11) (nC A (ED.length+1) c2)) mb fb n c v lv rv tlv uv cv bv av (nC A (ED.length+1) c2) g base P S (ED++[x]) FR/\AI w1 [253,299] wr (W2.setCell (mb,11) (nC A (ED.length+1) c2)):=by
 have p:=h.lo;have j:=h.later o;have I:Ah W2 mb 253 _:=i.Ap j.Ap (.inr mT);have l:AI w1 [253] W2 (W2.setCell (mb,11) (nC A (ED.length+1) c2)):=(AI.refl _ _ W2).EF I p.1 mV 11 _;have J:Aj (·=mb) W2 (W2.setCell (mb,11) (nC A (ED.length+1) c2)):=Aj.set (X:=(·=mb)) (Aj.refl _ W2) (p:=⟨mb,11,nK⟩) (.inr rfl) _;have R:w1.heap.size<=W.heap.size:=j.below.size;refine⟨⟨(j.below.trans ((i.mono p.2.2 (T':=[299]) (fun _ h=>h)).below R)).setCell (p:=⟨mb,11,nK⟩) p.1 _,h.vf,p,(j.Ay.next ((i.Ay).mono fun b o=>.inr (.inr o))).next (J.mono fun b o=>.inl o),?_,l.own (i.own j.FQ (.inr mT)) (.inr mT),l.own (i.own j.all (.inr mT)) (.inr mT),(j.AP.keeps i mT mT).keeps l mT mT,h.new,?_,?_,(j.fin.keeps i mT mT).keeps l mT mT⟩,?_⟩
 ·obtain⟨x0,x1,x2,x3,rfl⟩:=h.vf
  exact I.AW 11 _
 ·rw[List.flatMap_append,BS]
  exact l.own (by simpa using r1) (.inr mT)
 ·intro z U
  rcases mA.1 U with C|C
  ·exact((j.Jy z C).keeps i mT mT).keeps l mT mT
  ·rw[mS.1 C]
   exact((T.later o).keeps i mT mT).keeps l mT mT
 ·exact((AI.AJ o).trans (i.mono p.2.2 (fun a0 t=>by simp at t ⊢;exact .inr t))).trans (l.mono (AF _) (fun a0 t=>by simp at t ⊢;exact .inl t))
def Mk.ended(h:Mk w1 w3 wr mb fb n c v lv rv tlv uv cv bv av ev g base P S ED FR)(l:Below wr wr W){y:nU×List It}(T:FR[s]?=nJ y)(r1:W2.ownsRow w3 307 2 (nC A (y.2.length+1) c2) (y.2.length+1) (y.2.flatMap Bf++Bf x))(i:AI w3 [307] W W2)(r3:W.grownBy W2 y.1.ownBlock/\((Value.slice A (y.2.length+1) c2).ownBlock=y.1.ownBlock\/(Value.slice A (y.2.length+1) c2).ownBlock=nJ W.heap.size)) :
  Mk w1 w3 (W2.setCell (fb,s) (nC A (y.2.length+1) c2)) mb fb n c v lv rv tlv uv cv bv av ev g base P S ED (FR.set s (nC A (y.2.length+1) c2,y.2++[x]))/\AI w1 [305,307] wr (W2.setCell (fb,s) (nC A (y.2.length+1) c2)):=by
 have p:=h.lo;have j:=h.later l;obtain⟨a1,J⟩:=j.fin.Ap;have C:Ah W2 fb 305 _:=i.Ap J (.inr mT);have o:AI w1 [305] W2 (W2.setCell (fb,s) (nC A (y.2.length+1) c2)):=(AI.refl _ _ W2).EF C p.2.1 mV s _;have I:Aj (·=fb) W2 (W2.setCell (fb,s) (nC A (y.2.length+1) c2)):=Aj.set (X:=(·=fb)) (Aj.refl _ W2) (p:=⟨fb,s,nK⟩) (.inr rfl) _;have R:w1.heap.size<=W.heap.size:=j.below.size;refine⟨⟨(j.below.trans ((i.mono p.2.2 (T':=[307]) (fun _ h=>h)).below R)).setCell (p:=⟨fb,s,nK⟩) p.2.1 _,h.vf,p,(j.Ay.next ((i.Ay).mono fun b l=>.inr (.inr l))).next (I.mono fun b l=>.inr (.inl l)),o.Ap (i.Ap j.Ap (.inr mT)) (.inr mT),o.own (i.own j.FQ (.inr mT)) (.inr mT),o.own (i.own j.all (.inr mT)) (.inr mT),(j.AP.keeps i mT mT).keeps o mT mT,h.new,o.own (i.own j.Ex (.inr mT)) (.inr mT),fun z U=>((j.Jy z U).keeps i mT mT).keeps o mT mT,?_⟩,?_⟩
 ·exact h.fin.put l T (nv:=nC A (y.2.length+1) c2) (l:=y.2++[x]) (by rw[BS,List.flatMap_append];simpa using r1) i r3
 ·exact((AI.AJ l).trans (i.mono p.2.2 (fun a0 t=>by simp at t ⊢;exact .inr t))).trans (o.mono (AF _) (fun a0 t=>by simp at t ⊢;exact .inl t))
def Mk.LA{J:List Nat}(h:Mk w1 w3 wr mb fb n c v lv rv tlv uv cv bv av ev g base P S ED FR)(l:Aj (XP P) wr w2)(hf:BA w2 (g.nt+1) P J):Mk w1 w3 w2 mb fb n c v lv rv tlv uv cv bv av ev g base P J ED FR:=by
 have a0:=h.lo;have I:∀b,XP P b->w3.heap.size<=b/\∃j,Ah wr b 291 j:=fun b i=>by obtain⟨p,C,rfl⟩:=i;obtain⟨a1,T⟩:=h.AP.mem C;exact⟨(h.new p C).2,_,T.words⟩
 have no:∀{b:Nat} {t:TypeId} {j:Array nU},Ah wr b t j->t≠291->¬XP P b:=fun i ht e=>by obtain⟨_,j,R⟩:=I _ e;exact Ah.Bh i R ht rfl
 obtain⟨a2,U⟩:=h.fin.Ap;refine⟨h.below.trans (l.below h.below.size fun k o e=>by have:=(I k e).1;omega),h.vf,a0,h.Ay.next (l.mono fun b i=>.inr (.inr (I b i).1)),l.Ap h.Ap (no h.Ap mT),l.own h.FQ (EZ h.FQ fun b j i=>no i mT),l.own h.all (EZ h.all fun b j i=>no i mT),hf,h.new,l.own h.Ex (EZ h.Ex fun b j i=>no i mT),fun z hz=>?_,h.fin.Ay l (no U mT) (fun k x hx=>EZ (h.fin.own k x hx) fun b j i=>no i mT)⟩;have o:=h.Jy z hz;unfold Cl at o ⊢;split
 ·rename_i q
  rw[q]at o;exact o
 ·rename_i s q
  rw[q]at o;obtain⟨a,b,d⟩:=o;refine⟨a.Ay l (no a.head mT) ?_,b,d⟩;rintro⟨p,C,e⟩;exact d p C e
end
def Uc{l:List It}{j:Nat}(h:l.findIdx? (fun y=>x==y)=nJ j):l[j]?=nJ x/\∀i,i<j->l[i]?≠nJ x:=by
 obtain⟨p,t,C⟩:=List.findIdx?_eq_some_iff_getElem.1 h;refine⟨?_,fun i J e=>?_⟩
 ·rw[eG p]
  have o:x=l[j]:=by simpa using t
  rw[<-o]
 ·have o:=C i J
  obtain⟨P,I⟩:=sG.1 e;rw[I]at o;simp at o
def aV{lv bv:nU}{E:List (List It)}(c4:nQ w (mb,4)=nJ lv)(c9:nQ w (mb,9)=nJ bv)(hA:Fu w lv V L E)(hB:Bv w bv base)(b1:base.length=L.length){r:Nat}(hr:Gz.JV L base i x=nJ r)(b4:r<=1000000) :
  () 220 #[(mb,0),i,CH x] w fun e w'=>e=nP r/\Below w w w':=by
 obtain⟨⟨AL,cL,rfl,av,hc⟩,⟨az,b0⟩,h2,h3,h4⟩:=hA;unfold Gz.JV at hr;obtain⟨a1,p,a0⟩:=Option.map_eq_some_iff.1 hr;have hi:i<L.length:=by
  rcases Nat.lt_or_ge i L.length with h|h
  ·exact h
  ·rw[dG,nG h]at p
   simp at p
 obtain⟨a2,hl⟩:∃a2,L[i]?=nJ a2:=⟨_,eG hi⟩
 obtain⟨xv,a6⟩:∃x,V[i]?=nJ x:=⟨_,eG mR⟩
 obtain⟨bi,a4⟩:∃x,base[i]?=nJ x:=⟨_,eG mR⟩
 rw[dG,hl]at p;rw[dG,a4]at a0;simp only[Option.getD_some]at p a0;obtain⟨a5,ad⟩:=Uc p;have ay:=(sG.1 a5).1;obtain⟨b,off,rfl,hb,c0,c1⟩:=hc i xv a6;obtain⟨⟨Ai,ci,af,aa⟩,au,ar⟩:=h2 i xv a2 a6 hl;rw[af]at c0;obtain⟨⟨AB,cB,ao,a8⟩,_,_⟩:=hB;obtain⟨U,ob,al,an,a9⟩:=a8 i bi a4;subst ao;subst al;have aq:=World.block_lt_of_cell? w _ c4;have aj:=Hd a5;have ak:=Hd ad;have HC:=Hd aa;have HR:=Hd a0;have HK:Hid (∀y,Below w w y->nQ y (mb,9)=nJ (nC (U,ob) base.length cB)/\nQ y (U,ob+i)=nJ (nE nM (bi:Nat))):=Hd (fun y o=>⟨(o.cell (p:=⟨mb,9,nK⟩) aq).trans c9,(o.cell (p:=⟨U,ob+i,nK⟩) an).trans a9⟩)
 have aw:(i:Int)<(V.length:Int):=by omega
 have ax:(i:Int)<(base.length:Int):=by omega
 have b3:a1<1000001:=by omega
 obtain⟨j,l⟩:=x;have T:=Hd (Ah.new w 256 #[j,l]);have ai:=Hd (AE w (nO #[j,l] 256));unfold CH;clear hc h2 h3 hr p a5 ad aa ar a0 hl a6 a4 a8 af au a9 c9 c1;generalize V.length=n at *;generalize base.length=nb at *;go_enter func220,ntmps220
 go_wp2_with fail
 generalize hW:w.alloc (nO #[j,l] 256)=W at *;generalize ag:w.heap.size=q at *;have HQ:=Hd (And.intro hW ag);clear hW ag;go_loopw [18] (fun ii wr=>∃k:Nat,k<=a1/\ii=nE nM k/\Hid (Below W W wr)) (fun ii _=>a1+1-(intOf ii).toNat)
 case atStart=>exact⟨0,A0 _,rfl,Hd (Below.refl _ _)⟩
 case round=>
  obtain⟨k,hk,rfl,I⟩:=hrel;obtain⟨⟨t,C⟩,o⟩:∃y,a2[k]?=nJ y:=⟨_,eG mR⟩
  obtain⟨b2,ah,rfl,a7,d0,d1⟩:=HC k _ o;have J:Hid (Below q w wr):=Hd (ai.trans (I.mono (Nat.le_of_lt T.lt)));obtain⟨k9,kb⟩:=HK wr J;have a3:=Hd (T.below I T.lt);have x0:nQ wr (q,0)=nJ (nE nM j):=Ah.cell a3 0;have x1:nQ wr (q,1)=nJ (nE nM l):=Ah.cell a3 1;have xl:=Ah.lt a3;have ml:mb<wr.heap.size:=World.block_lt_of_cell? wr _ k9;have bl:U<wr.heap.size:=World.block_lt_of_cell? wr _ kb;have heq:=fun z=>Ry (j,l) (t,C) z
  have ab:=fun z op a b=>O4 op a b (j,l) (t,C) z
  unfold CH at heq ab;simp only at d0 d1 heq ab;have d0:=(J.cell (p:=⟨b2,ah+k*2,nK⟩) a7).trans d0;have d1:=(J.cell (p:=⟨b2,ah+k*2+1,nK⟩) a7).trans d1;by_cases ae:k=a1
  ·have R:((j,l):It)=(t,C):=by rw[ae,aj.out]at o;exact Option.some.inj o
   have P:decide (((j,l):It)=(t,C))=true:=decide_eq_true R;rw[P]at heq;have b5:IntKind.i64.wrap ((bi:Int)+(k:Int))=(r:Int):=by have:=HR.out;rw[IntKind.wrap_i64];omega
   clear o P R ae;go_wp2_with fail
   go_ret;exact⟨rfl,by rw[HQ.2];exact J.trans ((AE _ _).mono (by have:=J.size;have:=T.lt;have:=I.size;omega))⟩
  ·have R:¬((j,l):It)=(t,C):=fun e=>ak k mR (by rw[e];exact o)
   have P:decide (((j,l):It)=(t,C))=false:=decide_eq_false R;rw[P]at heq;clear o P R;go_wp2_with fail
   go_roundw
   case rel=>exact⟨k+1,mR,mY,Hd (I.trans ((AE _ _).mono I.size))⟩
   case measure=>simp[intOf];omega
def eY{t:List It}{p:It}(h:t.find? (fun x=>x.1==s)=nJ p):DS t s=(p.2:Int):=by unfold DS;rw[h]
def kW{r:Nat}(h:Gz.JV L base i x=nJ r):i<L.length:=by
 unfold Gz.JV at h;obtain⟨j,l,_⟩:=Option.map_eq_some_iff.1 h;rcases Nat.lt_or_ge i L.length with h|h
 ·exact h
 ·rw[dG,nG h]at l
  simp at l
def Tn{A:Nat->Prop}{R bv rv:nU}{E:List (List It)}{g:Gz}(c4:nQ w (mb,4)=nJ R)(c5:nQ w (mb,5)=nJ rv)(c9:nQ w (mb,9)=nJ bv)(C:Fu w R V L E)(hR:Dl A w rv (g.R.length+1) g.right)(hB:Bv w bv base)(a8:base.length=L.length){r:Nat}
  (ai:x.1<=g.R.length) (ab:x.2<(g.right x.1).length) (av:x.2<=1000000) (hi:i<L.length) (t:Gz.Hp g L E base i x=nJ r) (ah:r<=1000000) :
  () 194 #[(mb,0),i,CH x] w fun e w'=>e=nP r/\Below w w w':=by
 unfold Gz.Hp at t;cases P:(E.getD i []).find? (fun aj=>aj.1==g.next x) with
 | none=>rw[P]at t;cases t
 | some ad=>
  rw[P]at t;simp only at t;have a7:=eY P;have a3:Hid (∀y,Below w w y->() 82 #[R,i,nE nM (g.next x)] y fun e w'=>e=nP ad.2/\Below y y w'):=Hd (fun y j=>by have h:=RR (C.later j) (i:=i) (s:=g.next x) (by rw[<-C.len.1];exact hi);rw[a7]at h;exact h)
  have a1:=World.block_lt_of_cell? w _ c4;have U:Hid (∀y,Below w w y->() 220 #[(mb,0),ad.2,CH (x.1,x.2+1)] y fun e w'=>e=nP r/\Below y y w'):=Hd (fun y j=>aV ((j.cell (p:=⟨mb,4,nK⟩) a1).trans c4) ((j.cell (p:=⟨mb,9,nK⟩) a1).trans c9) (C.later j) (hB.later j) a8 t ah);obtain⟨bR,oR,cR,Ad,c2,rfl,al,ae,a9⟩:=hR.at_ (k:=x.1) mR;obtain⟨s,hs⟩:∃s,(g.right x.1)[x.2]?=nJ s:=⟨_,eG ab⟩
  have aa:g.next x=s:=by unfold Gz.next;rw[dG,hs];rfl
  rw[aa]at a3;obtain⟨bS,oS,rfl,_,an,af⟩:=a9.at_ hs;have ao:(x.1:Int)<((g.R.length+1:Nat):Int):=by omega
  have aq:(x.1:Int)<(g.R.length:Int)+1:=by omega
  have ar:(x.2:Int)<((g.right x.1).length:Int):=by omega
  have au:IntKind.i64.wrap ((x.2:Int)+1)=(x.2:Int)+1:=by rw[IntKind.wrap_i64];omega
  obtain⟨l,p⟩:=x;simp only at *;generalize (g.right l).length=rl at *;generalize g.R.length=nR at *;have J:=Hd (Ah.new w 256 #[l,p]);have ak:=Hd (AE w (nO #[l,p] 256));obtain⟨AL,cL,ag⟩:∃A c,R=nC A V.length c:=by obtain⟨⟨A,c,h,_⟩,_⟩:=C;exact⟨A,c,h⟩
  subst ag;unfold CH at U ⊢;simp only at U;clear P t a7 aa hs C hR hB a9 a8 c9 ai ab hi;generalize V.length=n at *;go_enter func194,ntmps194
  go_upto_region 1 with fail
  have x0:=Ah.cell J 0;have x1:=Ah.cell J 1;have xl:=Ah.lt J;simp at x0 x1 xl;go_quiet (fail)
  go_upto_region 2 with fail
  have o:Hid (Below w w ((w.alloc (nO #[l,p] 256)).drewN nq)):=Hd ⟨rfl,rfl,rfl,by simp[World.drewN],fun k hk=>Below.heap_alloc _ _ _ hk⟩;have a4:Hid (Ah ((w.alloc (nO #[l,p] 256)).drewN nq) w.heap.size 256 #[l,p]):=Hd (J.drewN nq);clear x0 x1 xl c5 ae af;generalize (w.alloc (nO #[l,p] 256)).drewN nq=W at *;have a0:Hid (∀y,Below W W y->nQ y (mb,4)=nJ (nC AL n cL)/\nQ y (w,0)=nJ (nE nM l)/\nQ y (w,1)=nJ (nE nM p)):=Hd (fun y j=>by have hb:=a4.below j a4.lt;exact⟨((o.trans (j.mono o.size)).cell (p:=⟨mb,4,nK⟩) a1).trans c4,hb.cell 0,hb.cell 1⟩)
  have T:Hid (Below W W W.drew):=Hd ((Below.refl _ W).drew);clear c4
  go_region_held3 (fun v=>nQ v (mb,4)=nJ (nC AL n cL)/\nQ v (w,0)=nJ (nE nM l)/\nQ v (w,1)=nJ (nE nM p))
   (first|exact a0 _ T|exact a0 _ I|exact a0 _ a2)
   (first
    | (
     go_at_call 82;refine(a3 W.drew (o.trans (T.mono o.size))).mono ?_;rintro e w3 ⟨rfl,a5⟩
     have I:=Hd (T.trans a5);clear a5)
    | (
     go_at_call 220;refine(U _ (o.trans (I.mono o.size))).mono ?_;rintro e w4 ⟨rfl,a6⟩
     have a2:=Hd (I.trans (a6.mono I.size));clear a6))
  go_wp2_with fail
  go_ret;exact⟨rfl,o.trans (a2.mono o.size)⟩
