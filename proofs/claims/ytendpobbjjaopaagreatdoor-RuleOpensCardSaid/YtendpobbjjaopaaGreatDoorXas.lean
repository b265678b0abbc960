/- . -/
import Derived.Test.YtendpobbjjaopaaGreatDoorXar
import Derived.Test.YtendpobbjjaopaaGreatDoorXao
set_option linter.all false
set_option maxRecDepth 100000
set_option maxHeartbeats 16000000
namespace Go.Proofs.YtendpobbjjaopaaGreatDoor
open Go.RowKit Go.Proofs.Tryz
open Value renaming slice→oG,int→oH,pointer→oI,bool→oK
open Option renaming some→oM,none→oN
open IntKind renaming i64→oO
open Obj renaming cells→oP
open Ending renaming returned→oQ
open World renaming cell?→oT
open Go renaming World→oU,Value→oV
variable{c2 s:Nat}{z:AH×AV}{o r:List Nat}{e:TypeId}{p:List AV×List Nat}{l:List (Nat×Bool)}{t:AH}{A:Option Addr}{xs:Bool}{out:List AV}{W w':oU}{A' X:Nat->Prop}{nv:oV}{f:Nat->Nat->oV->Prop}{cs:Array oV}{h:Option AH}{V:List (oV×oV)}{L:List (List It)}
section
open Go.Maps (IsMap Keyed)
def WU:El Tryz.prog 261 274 3 24:=El.of (z:=.agg #[oH oO 0,oI oN,oK false]) underlying261 nZ rfl nY
abbrev Gv(w:oU)(mb n:Nat)(D:DataW Unit):Prop:=w.ownsMap Tryz.prog 3 (plainElem Tryz.prog 3) mb n D
def Ec(D:DataW Unit)(m:Nat->Option Nat):Prop:=∀s:Nat,(∀j,m s=oM j->Maps.has D (Cq s)=true/\∀z,D.atKey (Cq s) z=.lit (.int oO (j:Int)))/\(m s=oN->Maps.has D (Cq s)=false/\∀z,D.atKey (Cq s) z=z)
def Ec.start:Ec (.map []) (fun _=>oN):=fun s=>⟨(fun j h=>by cases h),fun _=>⟨rfl,fun _=>rfl⟩⟩
def Ec.next{D:DataW Unit}{m:Nat->Option Nat}(h:Ec D m)(o:IsMap D)(s j:Nat):Ec (D.put (Cq s) (.lit (.int oO (j:Int)))) (fun a=>if a=s then oM j else m a):=by
 intro a;by_cases l:a=s
 ·subst l
  refine⟨fun t i=>?_,fun i=>?_⟩
  ·simp only[if_true]at i
   cases i
   exact⟨Maps.has_put_same o (OZ _) _,fun z=>Maps.atKey_put_same o (OZ _) _ _⟩
  ·simp only[if_true]at i
   cases i
 ·have p:Cq a≠Cq s:=fun e=>l (Q8 e)
  simp only[if_neg l,Maps.has_put_other p,Maps.atKey_put_other p];exact h a
def Ec.congr{D:DataW Unit}{m i:Nat->Option Nat}(h:Ec D m)(j:∀s,m s=i s):Ec D i:=by have:m=i:=funext j;rw[<-this];exact h
def M3{w:oU}{mb n:Nat}{D:DataW Unit}{m:Nat->Option Nat}(h:Gv w mb n D)(U:Ec D m)(hs:s<=100000) :
  (Instr.lookup 277 (.map (oM mb)) (oH oO (s:Int)) true).run Tryz.prog w=.ok (.tuple #[oH oO (((m s).getD 0:Nat):Int),oK (m s).isSome]) w:=by
 have T:keyOf Tryz.prog 3 (oH oO (s:Int))=oM (Cq s):=Maps.keyOf_int_mk underlying3 (WalkArith.wf_i64 nX);have hz:=plainElem_int (H:=Unit) (a:=0) underlying3 (WalkArith.wf_i64 nX);obtain⟨v,ps,C,J⟩:=h.look_ok MH underlying277 (LG w) hz T;have I:(Instr.lookup 277 (.map (oM mb)) (oH oO (s:Int)) true).run Tryz.prog w=.ok (.tuple #[v,oK (Maps.has D (Cq s))]) w:=C;have P:plainElem Tryz.prog 3 v=oM (D.atKey (Cq s) (.lit (.int oO 0)),ps):=J;obtain⟨c,rfl,R,-⟩:=plainElem_int_inv underlying3 P;have i:D.atKey (Cq s) (.lit (.int oO 0))=.lit (.int oO c):=congrArg Prod.fst R
 rw[I];obtain⟨p,t⟩:=U s;cases o:m s with
 | some a0=>obtain⟨j,l⟩:=p a0 o;rw[l]at i;simp only[DataW.lit.injEq,Lit.int.injEq,true_and]at i;rw[j,<-i];rfl
 | none=>obtain⟨j,l⟩:=t o;rw[l]at i;simp only[DataW.lit.injEq,Lit.int.injEq,true_and]at i;rw[j,<-i];rfl
def NF{w:oU}{mb n:Nat}{D:DataW Unit}(h:Gv w mb n D)(j:n<=10000000){c:Nat}(l:s<=100000)(i:c<=100000) :
  ∃w',(Instr.mapUpdate 277 (.map (oM mb)) (oH oO (s:Int)) (oH oO (c:Int))).run Tryz.prog w=.ok () w'/\Gv w' mb (n+1) (D.put (Cq s) (.lit (.int oO (c:Int))))/\w.grownBy w' (oM mb):=
 h.update MH underlying277 oB (Maps.keyOf_int_mk underlying3 (WalkArith.wf_i64 nX)) (plainElem_int underlying3 (WalkArith.wf_i64 nX))
def Fz(z:AH×AV):List oV:=[oH oO (z.2.s:Nat),z.1.v,oK z.2.self]
def EW(out:List AV)(s:Nat):Option Nat:=out.findIdx? (fun c=>c.s==s)
structure CK(w wr:oU)(mm nD ob oc m:Nat)(tv:oV)(Z:List (AH×AV))(todo:List Nat)(D:DataW Unit):Prop where
 below:Below w w wr
 row:wr.ownsRow w 274 3 (oG (ob,0) Z.length oc) Z.length (Z.flatMap Fz)
 AM:BD wr m (Z.map (·.1)) (Z.map (·.2.set))
 new:∀z∈Z,w.heap.size<=z.1.h/\w.heap.size<=z.1.wb
 Jw:Cd wr w.heap.size 3 1 tv todo.length (todo.map AY)
 map:Gv wr mm nD D
 at_:Ec D (EW (Z.map (·.2)))
 lo:w.heap.size<=mm
 tb:∀i∈todo,i<Z.length
section
variable {w wr w2:oU} {mm nD ob oc m:Nat} {tv:oV} {Z:List (AH×AV)} {todo:List Nat} {D:DataW Unit}
def CK.later(h:CK w wr mm nD ob oc m tv Z todo D)(i:Below wr wr w2):CK w w2 mm nD ob oc m tv Z todo D:=
 ⟨h.below.trans (i.mono h.below.size),AU h.row i,h.AM.later i,h.new,h.Jw.below i,(Am.AJ (X:=fun _=>False) i).map h.map id,h.at_,h.lo,h.tb⟩
def CK.cells(h:CK w wr mm nD ob oc m tv Z todo D){j:Nat}(C:Z[j]?=oM z):oT wr (ob,j*3)=oM (oH oO (z.2.s:Nat))/\oT wr (ob,j*3+1)=oM z.1.v/\oT wr (ob,j*3+2)=oM (oK z.2.self)/\wr.frozen? (ob,j*3+2)=false:=by obtain⟨i,t⟩:=sG.1 C;have l:=CP Fz 3 (fun _=>rfl) Z j 0 i nX;have o:=CP Fz 3 (fun _=>rfl) Z j 1 i nX;have p:=CP Fz 3 (fun _=>rfl) Z j 2 i nX;rw[t,Nat.add_zero]at l;rw[t]at o p;exact⟨by rw[Bh h.row (j*3) nX,l];rfl,by rw[Bh h.row (j*3+1) nX,o];rfl,by rw[Bh h.row (j*3+2) nX,p];rfl,GD h.row _⟩
def CK.Aj(h:CK w wr mm nD ob oc m tv Z todo D):∃i,Ah wr ob 274 i/\w.heap.size<=ob:=by
 rcases h.row.2 with⟨j,_⟩|⟨p,cap,i,j,l,o,_⟩
 ·cases j
 ·cases j;exact⟨i,o,l⟩
def CK.Ll(h:CK w wr mm nD ob oc m tv Z todo D){j:Nat}(i:Z[j]?=oM z):AQ wr z.1 z.2.set/\z.1.n=m:=by have l:=h.AM.at_ j z.1 (by rw[pG,i];rfl);rw[dG,pG,i]at l;exact⟨l,h.AM.room z.1 (List.mem_map.2 ⟨z,mG i,rfl⟩)⟩
def CK.apart(h:CK w wr mm nD ob oc m tv Z todo D){i j:Nat}{y:AH×AV}(o:Z[i]?=oM y)(p:Z[j]?=oM z)(l:i≠j):y.1.wb≠z.1.wb:=by
 intro e;refine l (Ut h.AM.apart (a:=y.1.wb) ?_ ?_)
 ·rw[pG,pG,o];rfl
 ·rw[pG,pG,p,e];rfl
theorem V9(out:List AV)(j:Nat)(c:AV)(s:Nat)(h:∀d,out[j]?=oM d->d.s=c.s):EW (out.set j c) s=EW out s:=by
 unfold EW;induction out generalizing j with
 | nil=>rfl
 | cons a out l=>
  cases j with
  | zero=>have:=h a rfl;rw[List.set_cons_zero,List.findIdx?_cons,List.findIdx?_cons,this]
  | succ j=>rw[List.set_cons_succ,List.findIdx?_cons,List.findIdx?_cons,l j (fun d i=>h d (by simpa using i))]
def eU(out:List AV)(c:AV)(h:EW out c.s=oN)(s:Nat):(if s=c.s then oM out.length else EW out s)=EW (out++[c]) s:=by
 unfold EW at *;rw[List.findIdx?_append];by_cases i:s=c.s
 ·subst i
  rw[if_pos rfl,h];simp
 ·rw[if_neg i]
  have:(c.s==s)=false:=beq_false_of_ne (fun e=>i e.symm);cases out.findIdx? (fun x=>x.s==s)<;>simp[this]
theorem kR(r:List (AH×AV))(k:Nat)(z:AH×AV)(S:Nat)(i:r[k]?=oM z):(r.flatMap Fz).set (k*3+2) (oK true)=(r.set k (z.1,⟨z.2.s,S,true⟩)).flatMap Fz:=by
 induction r generalizing k with
 | nil=>simp at i
 | cons x r l=>
  cases k with
  | zero=>simp at i;subst i;rfl
  | succ k=>
   have j:(k+1)*3+2=k*3+2+3:=by omega
   have h:=l k (by simpa using i);rw[List.flatMap_cons,List.set_cons_succ,List.flatMap_cons,<-h,j];rfl
theorem XQ(r:List (AH×AV))(k:Nat)(z:AH×AV)(S:Nat)(i:r[k]?=oM z):(r.set k (z.1,⟨z.2.s,S,z.2.self⟩)).flatMap Fz=r.flatMap Fz:=by
 induction r generalizing k with
 | nil=>simp at i
 | cons x r j=>
  cases k with
  | zero=>simp at i;subst i;rfl
  | succ k=>have h:=j k (by simpa using i);rw[List.set_cons_succ,List.flatMap_cons,List.flatMap_cons,h]
def CK.handed(h:CK w wr mm nD ob oc m tv Z todo D){j:Nat}(o:Z[j]?=oM z){r:AV×Bool}(C:r.1.s=z.2.s){e:Ending}(he:Ss wr ob (j*3) z.1 z.2.self r e w2):CK w w2 mm nD ob oc m tv (Z.set j (z.1,r.1)) todo D/\Am (fun k=>k=ob\/k=z.1.wb) wr w2:=by
 obtain⟨-,p,i,hs,hw⟩:=he;obtain⟨a3,a6,ab⟩:=h.Aj;have a1:=h.Ll o;have ad:=h.new z (mG o);have hj:=(sG.1 o).1;have a7:ob≠z.1.wb:=Ah.Bb a6 a1.1.words nY;have P:=i.Aj a6 a7;have aa:=i.own h.row (fun k l e=>by cases l;exact a7 e);have R:(Z.map (·.1))[j]?=oM z.1:=by rw[pG,o];rfl
 have U:BD p m (Z.map (·.1)) ((Z.map (·.2.set)).set j r.1.set):=h.AM.E0 R hs i;have a9:Cd p w.heap.size 3 1 tv todo.length (todo.map AY):=h.Jw.AA (X:=fun _=>True) (fun g a3 t _=>i.Aj t (fun e=>Ah.Bb t a1.1.words nY e));have a0:=i.map h.map (fun e=>Dl h.map a1.1.words e.symm);have a5:Below w w p:=h.below.trans (i.below h.below.size (fun k l e=>by omega));have e1:(Z.set j (z.1,r.1)).map (·.1)=Z.map (·.1):=by rw[List.map_set];exact TE R
 have e2:(Z.set j (z.1,r.1)).map (·.2.set)=(Z.map (·.2.set)).set j r.1.set:=by rw[List.map_set]
 have e3:(Z.set j (z.1,r.1)).map (·.2)=(Z.map (·.2)).set j r.1:=by rw[List.map_set]
 have a4:Ec D (EW ((Z.set j (z.1,r.1)).map (·.2))):=h.at_.congr fun s=>by
  rw[e3,V9];intro d hd;rw[pG,o]at hd;cases hd
  exact C.symm
 have a8:∀y∈Z.set j (z.1,r.1),w.heap.size<=y.1.h/\w.heap.size<=y.1.wb:=fun y hy=>by
  rcases List.mem_or_eq_of_mem_set hy with h1|rfl
  ·exact h.new y h1
  ·exact ad
 rcases hw with⟨rfl,I⟩|⟨rfl,I⟩
 ·refine⟨⟨a5,?_,by rw[e1,e2];exact U,a8,a9,a0,a4,h.lo,fun a2 hi=>by rw[List.length_set];exact h.tb a2 hi⟩,i.mono fun k l=>.inr l⟩
  have e4:=XQ Z j z r.1.set o;have T:r.1=⟨z.2.s,r.1.set,z.2.self⟩:=by obtain⟨⟨a,b,c⟩,d⟩:=r;simp only at C I ⊢;rw[C,I]
  rw[T,List.length_set,e4];exact aa
 ·have J:Am (·=ob) p (p.setCell (ob,j*3+2) (oK true)):=Am.set (X:=(·=ob)) (Am.refl _ p) (p:=⟨ob,j*3+2,oN⟩) (.inr rfl) _
  refine⟨⟨a5.setCell (p:=⟨ob,j*3+2,oN⟩) ab _,?_,?_,a8,?_,J.map a0 (fun e=>Dl a0 P e.symm),a4,h.lo,fun a2 hi=>by rw[List.length_set];exact h.tb a2 hi⟩,(i.mono fun k l=>.inr l).next (J.mono fun k l=>.inl l)⟩
  ·have T:r.1=⟨z.2.s,r.1.set,true⟩:=by
    obtain⟨⟨a,b,c⟩,d⟩:=r;simp only at C I ⊢;rw[C,I]
   rw[T,List.length_set,<-kR Z j z r.1.set o];exact Ge aa (j*3+2) nX _
  ·rw[e1,e2]
   refine U.AA J (fun ae R=>?_);obtain⟨S,hS⟩:=U.mem R;exact⟨Ah.Bb hS.head P nY,Ah.Bb hS.words P nY⟩
  ·exact a9.AA (X:=fun _=>True) (fun g a3 t _=>J.Aj t (fun e=>Ah.Bb t P nY e))
def CK.QK(h:CK w wr mm nD ob oc m tv Z todo D){p:oV}{i:Nat}(t:i<Z.length)(I:Cd w2 w.heap.size 3 1 p (todo.length+1) (todo.map AY++[oH oO i]))(l:AI w [3] wr w2):CK w w2 mm nD ob oc m p Z (todo++[i]) D:=
 ⟨h.below.trans (l.below h.below.size),l.own h.row (.inr nY),h.AM.keeps l nY nY,h.new,by rw[BB,Cb];exact I,l.map h.map,h.at_,h.lo,fun j C=>by
  rcases mA.1 C with o|o
  ·exact h.tb j o
  ·rw[mS.1 o];exact t⟩
def CK.LN{i:Nat}(h:CK w wr mm nD ob oc m tv Z (i::todo) D){l:oV}(p:Cd wr w.heap.size 3 1 l todo.length (todo.map AY)):CK w wr mm nD ob oc m l Z todo D:=
 ⟨h.below,h.row,h.AM,h.new,p,h.map,h.at_,h.lo,fun j o=>h.tb j (List.mem_cons_of_mem _ o)⟩
def CK.more(h:CK w wr mm nD ob oc m tv Z todo D){y:Nat}(hy:EW (Z.map (·.2)) y=oN){o w4:oU}(hm:Gv w2 mm (nD+1) (D.put (Cq y) (.lit (.int oO (Z.length:Nat)))))(hg:wr.grownBy w2 (oM mm))(i:Below w2 w2 o)(a2:AQ o t 0)(hn:t.n=m)(a0:w2.heap.size<=t.h/\w2.heap.size<=t.wb)
   {c:Nat} (R:w4.ownsRow w 274 3 (oG A (Z.length+1) c) (Z.length+1) (Z.flatMap Fz++Fz (t,⟨y,0,false⟩))) (l:AI w [274] o w4):∃j,A=oM ⟨j,0,oN⟩/\CK w w4 mm (nD+1) j c m tv (Z++[(t,⟨y,0,false⟩)]) todo (D.put (Cq y) (.lit (.int oO (Z.length:Nat)))):=by
 obtain⟨j,c',T⟩:=Nh R nX;cases T
 have C:Am (·=mm) wr w2:=Am.of_map hg;have U:BD w2 m (Z.map (·.1)) (Z.map (·.2.set)):=h.AM.AA C (fun a5 hp=>by obtain⟨S,I⟩:=h.AM.mem hp;exact⟨Dl h.map I.head,Dl h.map I.words⟩)
 have J:Below w w w2:=h.below.trans (C.below h.below.size (fun k hk e=>by have:=h.lo;omega));have a1:=J.size;have P:Below w w o:=J.trans (i.mono a1);refine⟨j,rfl,⟨P.trans (l.below P.size),by rw[List.flatMap_append,Cb];simpa using R,?_,?_,?_,l.map ((Am.AJ (X:=fun _=>False) i).map hm id),?_,h.lo,?_⟩⟩
 ·rw[BB,BB]
  exact(U.push i a2 hn a0.2).keeps l nY nY
 ·intro z hz
  rcases mA.1 hz with p|p
  ·exact h.new z p
  ·rw[mS.1 p];simp only;omega
 ·exact((h.Jw.AA (X:=fun _=>True) (fun g a4 i _=>C.Aj i (Dl h.map i))).below i).keeps l nY
 ·refine(h.at_.next h.map.isMap y Z.length).congr fun s=>?_
  have:=eU (Z.map (·.2)) ⟨y,0,false⟩ hy s;simp only[lM]at this;rw[this,BB];rfl
 ·intro a3 hi
  have:=h.tb a3 hi;rw[Cb];omega
end
end
variable{m:Nat}
def CK.hand{w wr:oU}{R T p U:Nat}{tv mp:oV}{Z:List (AH×AV)}{a0:List Nat}{D:DataW Unit}(h:CK w wr R T p U m tv Z a0 D){i j sx S:Nat}{emp:Bool}{x:AH×AV}{o:AH}(t:Z[i]?=oM x)(l:Z[j]?=oM z)(a4:AQ wr o S)(hn:o.n=m)(hw:o.wb<w.heap.size) :
  () 217 #[mp,.agg #[sx,x.1.v,oK xs],(p,j*3),.agg #[o.v,oK emp]] wr fun e w'=>e=oQ (oK (CH xs x.2.set z.2 (i==j) (S,emp)).2)/\CK w w' R T p U m tv (Z.set j (z.1,(CH xs x.2.set z.2 (i==j) (S,emp)).1)) a0 D/\Am (fun k=>k=p\/k=z.1.wb) wr w':=by
 obtain⟨a1,a2⟩:=h.Ll t;obtain⟨I,J⟩:=h.Ll l;obtain⟨c0,c1,c2,c3⟩:=h.cells l;obtain⟨a5,a3,a6⟩:=h.Aj;have hz:=h.new z (mG l);have hs:(CH xs x.2.set z.2 (i==j) (S,emp)).1.s=z.2.s:=by
  unfold CH;split
  ·rfl
  ·split
   ·rfl
   ·split<;>rfl
 refine(fW (mp:=mp) (sx:=sx) (s2:=z.2.s) (xs:=xs) (emp:=emp) (own:=i==j) a1 a4 I (a2.trans J.symm) (hn.trans J.symm) ?_ nX c1 c2 c3 (Ah.Bb a3 I.words nY)).mono ?_
 ·by_cases C:i=j
  ·subst C
   rw[t]at l;cases l
   simp
  ·have:(i==j)=false:=beq_false_of_ne C
   rw[this,if_neg oA];exact h.apart t l C
 ·intro e w' P
  have h1:=h.handed l hs P;exact⟨P.1,h1⟩
theorem Gz.Fit.M4{g:Gz}(h:g.Fit){k x:Nat}(i:x∈g.right k):x<=g.top:=by
 unfold Gz.right Gz.Br at i;split at i
 ·simp at i
  rw[i];exact h.start.2
 ·rw[dG]at i
  cases j:g.R[k]? with
  | none=>rw[j]at i;cases i
  | some r=>rw[j]at i;exact(h.right r (mG j) x i).2
def iI{g:Gz}{T:List (List (Nat×Bool))}{i:Nat}{k:Nat}(h:g.right k=[]):g.FH T i xs p k=p:=by unfold Gz.FH;rw[h]
def iM{g:Gz}{T:List (List (Nat×Bool))}{i:Nat}{k y:Nat}(h:g.right k=y::r)(j:g.BW y=false):g.FH T i xs p k=p:=by unfold Gz.FH;rw[h];simp only;rw[if_pos j]
def gJ{g:Gz}{T:List (List (Nat×Bool))}{i:Nat}{k y j:Nat}{ci l:AV}(h:g.right k=y::r)(I:g.BW y=true)(p:EW out y=oM j)(C:out[i]?=oM ci)(t:out[j]?=oM l):g.FH T i xs (out,o) k=(out.set j (CH xs ci.set l (i==j) (Gz.GG T k 0)).1,if (CH xs ci.set l (i==j) (Gz.GG T k 0)).2 then o++[j] else o):=by unfold Gz.FH;rw[h];simp only;rw[if_neg (by rw[I];simp)];unfold EW at p;rw[p];simp only;rw[dG,C,dG,t];rfl
def ZY{g:Gz}{T:List (List (Nat×Bool))}{i:Nat}{k y:Nat}{ci:AV}(h:g.right k=y::r)(p:g.BW y=true)(l:EW out y=oN)(j:out[i]?=oM ci):g.FH T i xs (out,o) k=((out++[(⟨y,0,false⟩:AV)]).set out.length (CH xs ci.set ⟨y,0,false⟩ (i==out.length) (Gz.GG T k 0)).1,o++[out.length]):=by have t:=(sG.1 j).1;unfold Gz.FH;rw[h];simp only;rw[if_neg (by rw[p];simp)];unfold EW at l;rw[l];simp only;rw[dG,j,show (i==out.length)=false from beq_false_of_ne nX,List.set_append_right _ _ (Ay _),Nat.sub_self];rfl
def Og(mb s i l j o:Nat)(tv:oV)(f:Nat->oV):Act:={tmps:=#[oI (oM ⟨mb,0,oN⟩),oH oO s,f 2,f 3,oG oN 0 0,.map (oM i),oG (oM ⟨l,0,oN⟩) j o,tv,f 8,f 9,f 10,f 11,f 12,f 13,f 14,f 15,f 16,f 17,f 18,f 19,f 20,f 21,f 22,f 23,f 24,f 25,f 26,f 27,f 28,f 29,f 30,f 31,f 32,f 33,f 34,f 35,f 36,f 37,f 38,f 39,f 40,f 41,f 42,f 43,f 44,f 45,f 46,f 47,f 48,f 49,f 50,f 51,f 52,f 53,f 54,f 55,f 56,f 57,f 58,f 59,f 60,f 61,f 62,f 63,f 64,f 65,f 66,f 67,f 68,f 69,f 70,f 71,f 72,f 73,f 74,f 75,f 76,f 77,f 78,f 79,f 80,f 81,f 82,f 83,f 84,f 85,f 86,f 87,f 88,f 89,f 90,f 91,f 92,f 93,f 94,f 95,f 96,f 97,f 98,f 99,f 100,f 101,f 102,f 103,f 104,f 105,f 106,f 107,f 108,f 109,f 110,f 111,f 112,f 113,f 114,f 115,f 116,f 117,f 118],defers:=[]}
def gI{w:oU}{mb:Nat}{v rv uv cp:oV}{g:Gz}{T:List (List (Nat×Bool))}{CC:List AV}(hg:GN w v g)(hm:∀j,j<4->oT w ⟨mb,j,oN⟩=v.cells[j]?)(c5:oT w (mb,5)=oM rv)(c6:oT w (mb,6)=oM cp)(c7:oT w (mb,7)=oM uv)
  (hR:Dq (Old w.heap.size) w rv (g.R.length+1) g.right) (hU:Dq (Old w.heap.size) w uv (g.top+1) g.CJ) (hT:F8 (Old w.heap.size) w (g.nt+1) cp (g.R.length+1) T) (e7:∀k,k<=g.R.length->(T.getD k []).length=(g.right k).length) (jg:g.nt<s) (hp:s<=g.top) (hc:g.J9 T s=oM CC) :
  () 183 #[(mb,0),s] w fun e w'=>∃cv,e=oQ cv/\DW (fun b=>w.heap.size<=b/\b<w'.heap.size) w' (g.nt+1) cv CC/\Below w w w':=by
 have bn:=hg.fit;have h1:=bn.nt;have j8:=bn.nn;have gz:=bn.nr;have j6:∀y:oU,(Instr.makeMap 277 oN).run Tryz.prog y=.ok (.map (oM y.heap.size)) (y.alloc (.map #[] 0)):=fun y=>by kernel_rfl
 obtain⟨AT,cT,AN,cN,AR,cR,rfl,-,-⟩:=hg.open_;have di:mb<w.heap.size:=World.block_lt_of_cell? w _ (hm 0 nX);have HC:Hid (∀y,Below w w y->oT y (mb,0)=oM (oG AT g.nt cT)/\oT y (mb,1)=oM (oG AN g.nn cN)/\oT y (mb,2)=oM (oG AR g.R.length cR)/\oT y (mb,3)=oM (oH oO g.s)/\oT y (mb,5)=oM rv/\oT y (mb,6)=oM cp/\oT y (mb,7)=oM uv):=Hd (fun y C=>by
  have hh:∀j u,oT w ⟨mb,j,oN⟩=oM u->oT y ⟨mb,j,oN⟩=oM u:=fun j u hu=>(C.cell (p:=⟨mb,j,oN⟩) di).trans hu
  exact⟨hh 0 _ (hm 0 nX),hh 1 _ (hm 1 nX),hh 2 _ (hm 2 nX),hh 3 _ (hm 3 nX),hh 5 _ c5,hh 6 _ c6,hh 7 _ c7⟩)
 have fq:Hid (∀y,Below w w y->Dq (Old w.heap.size) y rv (g.R.length+1) g.right):=Hd (fun y C=>hR.AA (Am.AJ (X:=fun b=>w.heap.size<=b) C) (fun b R h=>by unfold Old at R;omega));have g1:Hid (∀y,Below w w y->Dq (Old w.heap.size) y uv (g.top+1) g.CJ):=Hd (fun y C=>hU.AA (Am.AJ (X:=fun b=>w.heap.size<=b) C) (fun b R h=>by unfold Old at R;omega));have fx:Hid (∀y,Below w w y->F8 (Old w.heap.size) y (g.nt+1) cp (g.R.length+1) T):=Hd (fun y C=>hT.AA (Am.AJ (X:=fun b=>w.heap.size<=b) C) (fun b R h=>by unfold Old at R;omega))
 have fj:=Hd (fun y (C:Below w w y) (x:Nat)=>NA (hg.later C) x);have dt:Hid (∀y,Below w w y->() 182 #[(mb,0),oG oN 0 0] y fun e w'=>∃h:AH,e=oQ h.v/\h.n=g.nt+1/\y.heap.size<=h.h/\y.heap.size<=h.wb/\AQ w' h 0/\Below y y w'):=Hd (fun y C=>by have h0:=(C.cell (p:=⟨mb,0,oN⟩) di).trans (hm 0 nX);exact QX (l:=[]) h0 h1 ⟨⟨oN,0,rfl,fun k x U=>by simp at U⟩,oA,fun A n c e=>by cases e;exact⟨Ay _,fun _=>rfl⟩⟩ (fun x U=>by cases U))
 have dw:=Hd e7;have f8:=Hd hc;have fb:=Hd bn;have jl:g.top<=1000:=by unfold Gz.top;omega
 clear hg hm c5 c6 c7 hR hU hT e7 hc bn;go_enter func183,ntmps183
 go_wp2;refine Vz 0 (fun n a' wr=>∃(mm nD ob oc:Nat) (tv:oV) (Z:List (AH×AV)) (ab:List Nat) (D:DataW Unit),Hid (CK w wr mm nD ob oc (g.nt+1) tv Z ab D)/\Hid (g.Hf T n (Z.map (·.2)) ab=oM CC)/\nD<=Z.length/\Z.length<=20000/\Hid (∀z∈Z,z.2.s<=g.top)/\a'=Og mb s mm ob Z.length oc tv (fun i=>a'.tmps.getD i undef)) rfl ?pass ?first
 case first=>
  intro HJ;have fe:=Hd HJ;clear HJ;have ho:s<=100000:=by omega
  have dh:Gv (w.alloc (.map #[] 0)) w.heap.size 0 (.map []):=World.ownsMap_made (H:=Unit) w Tryz.prog 3 (plainElem Tryz.prog 3);obtain⟨w1,eo,ei,ef⟩:=NF dh nX (s:=s) (c:=0) ho nX;rw[show ((0:Nat):Int)=0 from rfl]at eo;have cs:Hid (Below w w w1):=Hd (((Below.refl _ w).alloc (Ay _) _).trans ((Am.of_map ef).below oA (fun k hk e=>by have e2:k=w.heap.size:=e;omega)));have fg:=Hd ei;have fd:=Hd dh.isMap;clear dh ei ef;go_wp2_with (
         go_at_call 182;refine(dt _ cs).mono ?_;rintro e w2 ⟨h0,rfl,az,bc,b5,b4,d8⟩
         have a6:=Hd (And.intro az (And.intro (And.intro bc b5) b4));have bp:=Hd d8;unfold AH.v;clear az bc b5 b4 d8)
  go_step3
  simp only[Exit.then];apply_assumption
  refine fe Gz.Rs _ _ ?_;refine⟨w.heap.size,1,w2.heap.size,1,oG (w2.heap.size+1,0) 1 1,[(h0,⟨s,0,true⟩)],[0],_,Hd (?_:CK _ _ _ _ _ _ _ _ _ _ (DataW.put (.map []) (Cq s) (.lit (.int oO ((0:Nat):Int))))),f8,Ay _,oA,Hd (fun z hz=>by rw[mS.1 hz];exact hp),rfl⟩;have i4:=cs.size;have i5:=bp.size;have ay:Below w w w2:=cs.trans (bp.mono i4);obtain⟨az,⟨bc,b5⟩,b4⟩:=a6.out;refine⟨(ay.alloc ay.size _).alloc oC _,?_,?_,?_,?_,(((Am.AJ (X:=fun _=>False) bp).map fg id).alloc _).alloc _,?_,Ay _,?_⟩
  ·refine⟨rfl,.inr ⟨w2.heap.size,1,#[s,h0.v,oK true],rfl,ay.size,(Ah.new w2 274 _).alloc _,Ay _,nY,rfl,rfl⟩⟩
  ·have hf:=(BD.nil w1 (g.nt+1)).push bp b4 az b5
   have gr:=(hf.later (DM w2 (oP #[s,h0.v,oK true] 274))).later (DM _ (oP #[oH oO 0] 3));exact gr
  ·intro z hz
   rw[mS.1 hz];simp only;omega
  ·refine⟨rfl,.inr ⟨w2.heap.size+1,0,1,#[oH oO 0],rfl,nX,Ah.newAt oA,Ay _,nY,oA,fun j u hu=>?_⟩⟩
   match j,hu with
   | 0,hu=>simpa [AY] using hu
   | j+1,hu=>simp at hu
  ·refine(Ec.start.next fd s 0).congr fun a=>?_
   unfold EW;by_cases ha:a=s
   ·subst ha;simp
   ·have:(s==a)=false:=beq_false_of_ne (fun e=>ha e.symm)
    simp[ha,this]
  ·intro i hi
   rw[mS.1 hi];simp
 case pass=>
  rintro n a' wr ⟨mm,nD,ob,oc,tv,Z,ab,D,HS,cw,gx,jr,e3,ha⟩;obtain⟨f,hf⟩:∃f,a'=Og mb s mm ob Z.length oc tv f:=⟨_,ha⟩
  clear ha;subst hf;unfold Og;obtain⟨Aq,cq,hx⟩:=HS.Jw.shape;subst hx;cases n with
  | zero=>have h:=cw.out;simp[Gz.Hf]at h
  | succ n=>
   cases ab with
   | nil=>
    have HE:Hid (Z.map (·.2)=CC):=Hd (by have h:=cw.out;unfold Gz.Hf at h;exact Option.some.inj h);go_wp2;simp only[Exit.jump];go_ret;refine⟨_,rfl,?_,HS.below⟩;have hl:CC.length=Z.length:=by rw[<-HE.out,lM]
    obtain⟨ga,cd,h7⟩:=HS.Aj;have he:=NU HS.row;unfold DW;rw[hl];refine⟨_,oc,rfl,he.1,nX,fun k hk=>⟨ob,0,rfl,⟨h7,cd.lt⟩,cd.lt,fun j hj=>?_⟩⟩;obtain⟨z,hz⟩:∃z,Z[k]?=oM z:=⟨_,eG hk⟩
    have gl:CC.getD k ⟨0,0,false⟩=z.2:=by rw[<-HE.out,dG,pG,hz];rfl
    obtain⟨c0,c1,c2,-⟩:=HS.cells hz;obtain⟨a1,a2⟩:=HS.Ll hz;have f5:=HS.new z (mG hz);show ∃x,oT wr (ob,0+k*3+j)=oM x/\(if j=0 then x=oH oO ((CC.getD k ⟨0,0,false⟩).s:Nat) else if j=1 then ∃h:AH,x=h.v/\h.n=g.nt+1/\IP (fun b=>w.heap.size<=b/\b<wr.heap.size) wr h (CC.getD k ⟨0,0,false⟩).set else x=oK (CC.getD k ⟨0,0,false⟩).self)
    rw[gl,Nat.zero_add]
    match j,hj with
    | 0,_=>exact⟨_,c0,rfl⟩
    | 1,_=>exact⟨_,c1,z.1,rfl,a2,a1,⟨f5.1,a1.head.lt⟩,⟨f5.2,a1.words.lt⟩⟩
    | 2,_=>exact⟨_,c2,rfl⟩
   | cons i ab=>
    have b1:=cw.out;unfold Gz.Hf at b1;have iz:Z.length+ab.length<=10000:=by
     split at b1
     ·cases b1
     ·rename_i h;rw[lM]at h;omega
    rw[if_neg (by rw[lM];omega)]at b1;have gu:=HS.tb i oA;obtain⟨⟨U,o⟩,ca⟩:∃z,Z[i]?=oM z:=⟨_,eG gu⟩
    have eg:(Z.map (·.2)).getD i ⟨0,0,false⟩=o:=by rw[dG,pG,ca];rfl
    rw[eg]at b1;have f9:=Hd b1;obtain⟨q,off,gf,hd,ep,er⟩:=HS.Jw.at_ oA;subst gf;have q0:oT wr ⟨q,off,oN⟩=oM (oH oO i):=by have:=er 0 _ rfl;simpa [AY] using this
    simp only[List.length_cons]at ep;obtain⟨cm,h9,en⟩:∃cm:Nat,(if cq=1 then oM (⟨q,off,oN⟩:Addr) else oM ⟨q,off+1,oN⟩)=oM ⟨q,cm,oN⟩/\(cm=off+1\/(cq=1/\cm=off)):=by
     by_cases P:cq=1
     ·exact⟨off,by rw[if_pos P],.inr ⟨P,rfl⟩⟩
     ·exact⟨off+1,by rw[if_neg P],.inl rfl⟩
    have gp:(1:Int)<=(cq:Int):=by omega
    have gq:((ab.length:Int)+1)<=(cq:Int):=by omega
    have hb:(0:Int)<((ab.length:Int)+1):=by omega
    have cf:(((ab.length:Int)+1)==0)=false:=by rw[bN];omega
    have fs:=Hd (HS.LN (Cd.tail HS.Jw en));obtain⟨x0,x1,x2,-⟩:=HS.cells ca;simp only at x0 x1 x2;unfold AH.v at x1;have j2:(i:Int)<(Z.length:Int):=by omega
    have c8:=Hd (Ah.new wr 274 #[oH oO (o.s:Nat),(U.h,0),oK o.self]);have d1:=Hd (fs.later (DM wr (oP #[oH oO (o.s:Nat),(U.h,0),oK o.self] 274)));have e0:=Hd ca;clear er en b1 eg ca ep;have iy:o.s<=g.top:=e3 _ (mG e0);obtain⟨y0,y1,y2,y3,y5,y6,y7⟩:=HC _ d1.below;obtain⟨bu,ou,cu,Ak,ck,i0,iv,hy,f0⟩:=(g1 _ d1.below).at_ (k:=o.s) nX;subst i0;have g0:=Hd f0;have jh:(o.s:Int)<((g.top:Int)+1):=by omega
    have ji:(o.s:Int)<((g.top+1:Nat):Int):=by omega
    go_upto_region 8 with fail
    have gw:mb<(wr.alloc (oP #[oH oO (o.s:Nat),(U.h,0),oK o.self] 274)).heap.size:=by have:=HS.below.size;simp;omega
    have z0:(wr.alloc (oP #[oH oO (o.s:Nat),(U.h,0),oK o.self] 274)).cell? (wr,0)=oM (oH oO (o.s:Nat)):=Ah.cell c8 0;have zl:wr.heap.size<(wr.alloc (oP #[oH oO (o.s:Nat),(U.h,0),oK o.self] 274)).heap.size:=Ah.lt c8;have h8:ob≠wr.heap.size:=by obtain⟨ga,cd,_⟩:=HS.Aj;have:=cd.lt;omega
    have je:(g.CJ o.s).length<=300:=AW (L2 g o.s) gz;have b3:∀k∈g.CJ o.s,k<g.R.length:=fun k hk=>by unfold Gz.CJ at hk;exact List.mem_range.1 (List.mem_filter.1 hk).1
    have fl:=Hd b3;generalize et:g.CJ o.s=rules at *;have im:=Hd et;generalize el:rules.length=nr at *;have du:=Hd el;generalize f1:wr.heap.size=t at *;have g3:=Hd f1;generalize wr.alloc (oP #[oH oO (o.s:Nat),(U.h,0),oK o.self] 274)=W at *;clear et el f1 b3 f0 q0 h9 gp gq hb cf x0 x1 x2 hd;go_quiet (fail)
    have HD:∀n,Below W W (W.drewN n):=fun n=>⟨rfl,rfl,rfl,Ay _,fun _ _=>rfl⟩
    have fr:=Hd (d1.later (HD nq));have g2:=Hd (c8.below (HD nq) c8.lt);have fz:Hid (Ca (Old w.heap.size) (W.drewN nq) (oG Ak nr ck) rules):=Hd (g0.AA (Am.AJ (X:=fun _=>False) (HD nq)) (fun _ _=>id));generalize W.drewN nq=W1 at *;clear HD z0 zl hy y0 y1 y2 y3 y5 y6 y7 gw;go_wp2_with fail
    go_loopw [6,7,44] (fun ov tv jj wy=>∃(k af a5 ag:Nat) (l:List (AH×AV)) (a4:List Nat) (D':DataW Unit),k<=nr/\jj=oH oO k/\ov=oG (a5,0) l.length ag/\Hid (CK w wy mm af a5 ag (g.nt+1) tv l a4 D')/\Hid (Ah wy t 274 #[oH oO (o.s:Nat),(U.h,0),oK o.self])/\a5≠t/\Hid ((l.map (·.2),a4)=(rules.take k).foldl (g.FH T i o.self) (Z.map (·.2),ab))/\Hid (∃c,l[i]?=oM (U,c))/\af<=l.length/\l.length<=Z.length+k/\a4.length<=ab.length+k/\Hid (∀z∈l,z.2.s<=g.top)/\Hid (Ca (Old w.heap.size) wy (oG Ak nr ck) rules)) (fun _ _ jj _=>nr-(intOf jj).toNat)
    case atStart=>exact⟨0,nD,ob,oc,Z,ab,D,AX _,rfl,rfl,fr,g2,h8,Hd rfl,Hd ⟨o,e0⟩,gx,nX,nX,e3,fz⟩
    case round=>
     obtain⟨k,af,a5,ag,l,a4,D',hk,rfl,rfl,a6,a7,b0,dr,d6,dj,i5,jk,bb,b9⟩:=hrel;rename oU=>w7
     by_cases gv:k<nr
     ·obtain⟨rk,b3⟩:∃x,rules[k]?=oM x:=⟨_,eG (by rw[du.out];exact gv)⟩
      have jd:=fl rk (mG b3);obtain⟨bk,ok,gd,iq,ir,iw⟩:=b9.at_ b3;subst gd;have aq:=Hd a6.below;obtain⟨y0,y1,y2,y3,y5,y6,y7⟩:=HC _ aq;obtain⟨br,js,cr,ik,ip,hn,it,cg,bd⟩:=(fq _ aq).at_ (k:=rk) nX;subst hn;have bi:=Hd (L9 (g.FH T i o.self) rules (Z.map (·.2),ab) k rk b3);rw[<-dr.out]at bi;have jb:(rk:Int)<((g.R.length+1:Nat):Int):=by omega
      have jc:(rk:Int)<(g.R.length:Int)+1:=by omega
      have j9:(k:Int)<(nr:Int):=by omega
      clear b3;cases aa:g.right rk with
      | nil=>
       have cy:=Hd (bi.trans (iI aa));rw[aa]at cg bd;simp only[List.length_nil]at cg;clear aa;go_upto_region 12 with fail
       go_quiet (fail)
       have cx:Hid (Below w7 w7 (w7.drewN nq)):=Hd ⟨rfl,rfl,rfl,Ay _,fun _ _=>rfl⟩;go_wp2_with fail
       go_roundw
       case rel=>exact⟨k+1,af,a5,ag,l,a4,D',nX,oD,rfl,Hd (a6.later cx),Hd (a7.below cx a7.lt),b0,Hd cy.symm,d6,dj,nX,nX,bb,Hd (b9.AA (Am.AJ (X:=fun _=>False) cx) (fun _ _=>id))⟩
       case measure=>simp[intOf];omega
      | cons y rest=>
       rw[aa]at cg bd;simp only[List.length_cons]at cg bd;obtain⟨bq,oq,gg,gi,d9,dc⟩:=bd.at_ (k:=0) rfl;subst gg;rw[Nat.add_zero]at dc;have f3:y<=g.top:=fb.M4 (k:=rk) (x:=y) (by rw[aa];simp);have j7:(((rest.length:Int)+1)==0)=false:=by rw[bN];omega
       have ja:(0:Int)<(rest.length:Int)+1:=by omega
       have ai:Hid (Below w7 w7 w7.drew):=Hd ((Below.refl _ w7).drew);have bw:=Hd (fj w7.drew (aq.trans (ai.mono aq.size)) y);have ar:Hid (∀v,Below w7 w7 v->oT v (mb,0)=oM (oG AT g.nt cT)/\oT v (mb,1)=oM (oG AN g.nn cN)/\oT v (mb,2)=oM (oG AR g.R.length cR)/\oT v (mb,3)=oM (oH oO g.s)/\oT v (bq,oq)=oM (oH oO y)):=Hd (fun v hv=>by obtain⟨a0,a1,a2,a3,-⟩:=HC _ (aq.trans (hv.mono aq.size));exact⟨a0,a1,a2,a3,(hv.cell (p:=⟨bq,oq,oN⟩) d9).trans dc⟩)
       cases C:g.BW y with
       | false=>
        have cy:=Hd (bi.trans (iM aa C));have HY:=Hd C;clear aa C bd;go_upto_region 12 with fail
        go_region_held3 (fun v=>oT v (mb,0)=oM (oG AT g.nt cT)/\oT v (mb,1)=oM (oG AN g.nn cN)/\oT v (mb,2)=oM (oG AR g.R.length cR)/\oT v (mb,3)=oM (oH oO g.s)/\oT v (bq,oq)=oM (oH oO y))
          (first|exact ar _ ai|exact ar _ p)
          (first|(
                  go_at_call 168;refine bw.mono ?_;rintro e w8 ⟨rfl,ad⟩
                  rw[HY.out];have p:=Hd (ai.trans ad);clear ad))
        go_wp2_with fail
        go_roundw
        case rel=>exact⟨k+1,af,a5,ag,l,a4,D',nX,oD,rfl,Hd (a6.later p),Hd (a7.below p a7.lt),b0,Hd cy.symm,d6,dj,nX,nX,bb,Hd (b9.AA (Am.AJ (X:=fun _=>False) p) (fun _ _=>id))⟩
        case measure=>simp[intOf];omega
       | true=>
        have HY:=Hd C;obtain⟨ci,ak⟩:=d6.out;obtain⟨a8,cj⟩:∃a8,(T.getD rk [])[0]?=oM a8:=⟨_,eG (by rw[dw.out rk nX,aa];simp)⟩
        have ev:Gz.GG T rk 0=a8:=by unfold Gz.GG;rw[dG,cj];rfl
        obtain⟨bt,ot,ct,xt,hs,⟨da,iu⟩,dd,ew⟩:=(fx _ aq).at_ (k:=rk) nX;subst hs;obtain⟨b2,o2,c2,ht,i3,⟨cc,d8⟩,dk,dm,ez,ch⟩:=ew.at_ cj;subst i3;rw[Nat.zero_mul,Nat.add_zero]at dk dm;have da:bt<w.heap.size:=da;have cc:b2<w.heap.size:=cc;have dn:ht.wb<w.heap.size:=ch.2.2;have fw:=Hd dn;have dx:=Hd ch.1;have hr:ht.h<w.heap.size:=ch.2.1;have fu:=Hd hr;have hw:(0:Int)<((T.getD rk []).length:Int):=by have:=dw rk nX;rw[aa,List.length_cons]at this;omega
        obtain⟨cn,ey⟩:∃n,(T.getD rk []).length=n:=⟨_,rfl⟩
        rw[ey]at dd hw;have jm:0<cn:=by omega
        have jn:¬(cn=0):=by omega
        have e6:∀v v',Below w7 w7 v->∀X:Nat->Prop,Am X v v'->(∀q,X q->w.heap.size<=q/\q≠t)->v'.cell? (t,0)=oM (oH oO (o.s:Nat))/\v'.cell? (t,1)=oM (oI (U.h,0))/\v'.cell? (t,2)=oM (oK o.self)/\v'.cell? (mb,6)=oM (oG (bt,ot) (g.R.length+1) ct)/\v'.cell? (bt,ot+rk)=oM (oG (b2,o2) cn c2)/\v'.cell? (b2,o2)=oM (oI (ht.h,0))/\v'.cell? (b2,o2+1)=oM (oK a8.2):=fun v v' hv X hc hX=>by
          have jo:=hv.size;have jq:=aq.size;have i2:=a7.lt;have gj:=a7.below hv i2;have FW:∀(b j:Nat) (u:oV),b<w.heap.size->oT w7 ⟨b,j,oN⟩=oM u->v'.cell? ⟨b,j,oN⟩=oM u:=fun b j u R hu=>(hc.cell nX (fun e=>by have:=(hX b e).1;omega) j).trans ((hv.cell (p:=⟨b,j,oN⟩) (by show b<w7.heap.size;omega)).trans hu)
          have ay:=hc.Aj gj (fun e=>(hX t e).2 rfl);exact⟨Ah.cell ay 0,Ah.cell ay 1,Ah.cell ay 2,FW mb 6 _ di y6,FW bt _ _ da dd,FW b2 _ _ cc dk,FW b2 _ _ cc dm⟩
        have bz:=Hd e6;have jf:(rk:Int)<((g.R.length+1:Nat):Int):=by omega
        clear e6 ew ch dd dk dm bd ey;have cl:y<=100000:=by omega
        cases hj:EW (l.map (·.2)) y with
        | some j=>
          have eh:j<l.length:=by unfold EW at hj;have:=(List.findIdx?_eq_some_iff_findIdx_eq.1 hj).1;simpa using this
          obtain⟨z,hz⟩:∃z,l[j]?=oM z:=⟨_,eG eh⟩
          have an:=bi.trans (gJ aa C hj (by rw[pG,ak];rfl) (by rw[pG,hz];rfl));rw[ev]at an;have ae:=Hd (fun v (hv:Below w7 w7 v)=>(a6.later hv).hand (mp:=oI (mb,0)) (sx:=o.s) (xs:=o.self) (emp:=a8.2) ak hz (dx.later hv) ez dn);have ee:CH o.self ci.set z.2 (i==j) (a8.1,a8.2)=CH o.self ci.set z.2 (i==j) a8:=rfl;simp only[ee]at ae;have dp:(CH o.self ci.set z.2 (i==j) a8).1.s=z.2.s:=by
           unfold CH;split
           ·rfl
           ·split
            · rfl
            · split<;>rfl
          generalize be:CH o.self ci.set z.2 (i==j) a8=rr at *;obtain⟨rc,rb⟩:=rr;simp only at an ae dp;have bx:=Hd an;have HJ:=Hd hj;have f4:=a6.new z (mG hz);have i1:=a7.lt;have cf:z.1.wb≠t:=fun e=>Ah.Bb a7 (a6.Ll hz).1.words nY e.symm
          have e5:=Hd (And.intro f4.2 (And.intro cf b0));have av:=a6.Aj;obtain⟨_,_,av⟩:=av;have dv:=Hd av;have j5:(j:Int)<(l.length:Int):=by omega
          have dz:Hid ((l.set j (z.1,rc))[i]?=oM (U,if i=j then rc else ci)):=Hd (by
           by_cases df:i=j
           ·subst df
            rw[ak]at hz;cases hz
            rw[tG eh,if_pos rfl]
           ·rw[uG (fun e=>df e.symm),ak,if_neg df])
          have e1:Hid ((l.set j (z.1,rc)).map (·.2)=(l.map (·.2)).set j rc):=Hd (by rw[List.map_set]);have e4:Hid (∀y∈l.set j (z.1,rc),y.2.s<=g.top):=Hd (fun y C=>by
           rcases List.mem_or_eq_of_mem_set C with P|rfl
           ·exact bb y P
           ·simp only;rw[dp];exact bb z (mG hz))
          clear aa C hj an cj hz ak f4 i1 cf av ee be dp;cases rb with
          | false=>
           go_upto_region 12 with fail
           go_region_held3 (fun v=>oT v (mb,0)=oM (oG AT g.nt cT)/\oT v (mb,1)=oM (oG AN g.nn cN)/\oT v (mb,2)=oM (oG AR g.R.length cR)/\oT v (mb,3)=oM (oH oO g.s)/\oT v (bq,oq)=oM (oH oO y))
            (first|exact ar _ ai|exact ar _ p)
            (first|(
                    go_at_call 168;refine bw.mono ?_;rintro e w8 ⟨rfl,ad⟩
                    rw[HY.out];have p:=Hd (ai.trans ad);have a9:=Hd (a6.later p);have au:=M3 a9.map a9.at_ cl;rw[HJ.out]at au;simp only[Option.getD_some,Option.isSome_some]at au;clear ad))
           go_upto_region 18 with fail
           go_region_held3 (fun v'=>v'.cell? (t,0)=oM (oH oO (o.s:Nat))/\v'.cell? (t,1)=oM (oI (U.h,0))/\v'.cell? (t,2)=oM (oK o.self)/\v'.cell? (mb,6)=oM (oG (bt,ot) (g.R.length+1) ct)/\v'.cell? (bt,ot+rk)=oM (oG (b2,o2) cn c2)/\v'.cell? (b2,o2)=oM (oI (ht.h,0))/\v'.cell? (b2,o2+1)=oM (oK a8.2))
            (first|exact bz w8.drew w8.drew p.drew (fun _=>False) (Am.refl _ _) (fun _ h=>h.elim)|exact bz w8.drew J p.drew _ ah ba)
            (first|(
                    go_at_call 217;refine(ae _ p.drew).mono ?_;rintro e J ⟨rfl,bo,al⟩
                    have aj:=Hd bo;have ah:=Hd al;have ba:Hid (∀q,(q=a5\/q=z.1.wb)->w.heap.size<=q/\q≠t):=Hd (fun q hq=>by
                     have P:=e5.out;have h2:=dv.out;rcases hq with rfl|rfl
                     ·exact⟨h2,P.2.2⟩
                     ·exact⟨P.1,P.2.1⟩)
                    have bm:=Hd (al.Aj (a7.below p.drew a7.lt) (fun e=>(ba t e).2 rfl));have bj:Hid (Ca (Old w.heap.size) J (oG (bk,ok) nr ck) rules):=Hd ((b9.AA (Am.AJ (X:=fun _=>False) p.drew) (fun _ _=>id)).AA al (fun b R e=>by have:=(ba b e).1;unfold Old at R;omega));clear bo al))
           all_goals go_wp2_with fail
           all_goals go_roundw
           all_goals first
            | (simp[intOf];omega)
            | exact⟨k+1,af,a5,ag,l.set j (z.1,rc),a4,D',nX,oD,by rw[List.length_set],aj,bm,b0,Hd (by rw[bx.out,e1.out];rfl),Hd ⟨_,dz⟩,by rw[List.length_set];omega,by rw[List.length_set];omega,nX,e4,bj⟩
          | true=>
           go_upto_region 12 with fail
           go_region_held3 (fun v=>oT v (mb,0)=oM (oG AT g.nt cT)/\oT v (mb,1)=oM (oG AN g.nn cN)/\oT v (mb,2)=oM (oG AR g.R.length cR)/\oT v (mb,3)=oM (oH oO g.s)/\oT v (bq,oq)=oM (oH oO y))
            (first|exact ar _ ai|exact ar _ p)
            (first|(
                    go_at_call 168;refine bw.mono ?_;rintro e w8 ⟨rfl,ad⟩
                    rw[HY.out];have p:=Hd (ai.trans ad);have a9:=Hd (a6.later p);have au:=M3 a9.map a9.at_ cl;rw[HJ.out]at au;simp only[Option.getD_some,Option.isSome_some]at au;clear ad))
           go_upto_region 18 with fail
           obtain⟨i9,ia,ib,ic,ie,ig,ih⟩:=bz w8 w8 p (fun _=>False) (Am.refl _ _) (fun _ h=>h.elim);first|(go_region_law (first|(
                         go_simp;go_at_call 217;refine(ae _ p.drew).mono ?_;rintro e J ⟨rfl,bo,al⟩;have aj:=Hd bo;have ah:=Hd al;have ba:Hid (∀q,(q=a5\/q=z.1.wb)->w.heap.size<=q/\q≠t):=Hd (fun q hq=>by
                          have P:=e5.out;have h2:=dv.out;rcases hq with rfl|rfl
                          ·exact⟨h2,P.2.2⟩
                          ·exact⟨P.1,P.2.1⟩)
                         have bm:=Hd (al.Aj (a7.below p.drew a7.lt) (fun e=>(ba t e).2 rfl));have bj:Hid (Ca (Old w.heap.size) J (oG (bk,ok) nr ck) rules):=Hd ((b9.AA (Am.AJ (X:=fun _=>False) p.drew) (fun _ _=>id)).AA al (fun b R e=>by have:=(ba b e).1;unfold Old at R;omega));clear bo al)))|fail
           all_goals go_wp2_with (
                        at_builtin;refine Pm Ib (.tmp 114) (.tmp 116) rfl rfl (base:=w.heap.size) (n:=a4.length) (m:=1) (N:=a4.length+1) (xs:=a4.map AY) (news:=[oH oO j]) rfl rfl (aj.later (AG J (oP #[oH oO j] 3))).Jw (Be.Aj (c:=1) (cs:=[oH oO j]) (Ah.new J 3 _) rfl oE) nX rfl oB nX (aj.later (AG J (oP #[oH oO j] 3))).below.size ?_
                        intro f6 g9 b7 r1 I r3;have il:=Hd I;have d0:=Hd ((aj.later (AG J (oP #[oH oO j] 3))).QK (i:=j) (by rw[List.length_set];omega) r1 I);have d5:=Hd (I.Aj (bm.alloc (oP #[oH oO j] 3)) (.inr nY));have d3:=Hd ((bj.AA (Am.AJ (X:=fun _=>False) (AG J (oP #[oH oO j] 3))) (fun _ _=>id)).AA (X:=fun b=>w.heap.size<=b) ⟨I.os,I.tape,I.output,I.size,fun q hq U=>I.block q hq (.inl nX)⟩ (fun b R e=>by unfold Old at R;omega));clear r1 I r3)
           all_goals go_roundw
           all_goals first
            | (simp[intOf];omega)
            | exact⟨k+1,af,a5,ag,l.set j (z.1,rc),a4++[j],D',nX,oD,by rw[List.length_set],Hd (by simpa using d0.out),d5,b0,Hd (by rw[bx.out,e1.out];rfl),Hd ⟨_,dz⟩,by rw[List.length_set];omega,by rw[List.length_set];omega,oC,e4,d3⟩
        | none=>
          have an:=bi.trans (ZY aa C hj (by rw[pG,ak];rfl));rw[ev,lM]at an;have HJ:=Hd hj;have gs:i<l.length:=(sG.1 ak).1;obtain⟨rr,be⟩:∃rr,CH o.self ci.set ⟨y,0,false⟩ (i==l.length) a8=rr:=⟨_,rfl⟩
          rw[be]at an;have fo:=Hd be;have bx:=Hd an;have g5:=Hd ak;have i6:l.length<=100000:=by omega
          have gy:af<=10000000:=by omega
          obtain⟨_,_,av⟩:=a6.Aj;have dg:=a6.lo;have f2:w.heap.size<=t:=by rw[<-g3.out];exact HS.below.size
          have ek:mm≠t:=fun e=>(Dl a6.map a7) e.symm
          have bl:Hid (∀q,(q=mm\/q=a5)->w.heap.size<=q/\q≠t):=Hd (fun q hq=>by
           rcases hq with rfl|rfl
           ·exact⟨dg,ek⟩
           ·exact⟨av,b0⟩)
          have es:rr.1.s=y:=by
           rw[<-be];unfold CH;split
           ·rfl
           ·split
            · rfl
            · split<;>rfl
          have fp:=Hd es;have j0:(i:Int)<(l.length:Int)+1:=by omega
          have j1:(i:Int)<((l.length+1:Nat):Int):=by omega
          have j3:(l.length:Int)<(l.length:Int)+1:=by omega
          have j4:(l.length:Int)<((l.length+1:Nat):Int):=by omega
          have ds:=Hd (show w.heap.size<=a5/\w.heap.size<=mm/\w.heap.size<=t from ⟨av,dg,f2⟩);have ed:bq<w.heap.size:=gi;have f7:=Hd ed;clear aa C hj an be cj ak av dg f2 ed ek es;go_upto_region 12 with fail
          go_region_held3 (fun v=>oT v (mb,0)=oM (oG AT g.nt cT)/\oT v (mb,1)=oM (oG AN g.nn cN)/\oT v (mb,2)=oM (oG AR g.R.length cR)/\oT v (mb,3)=oM (oH oO g.s)/\oT v (bq,oq)=oM (oH oO y))
           (first|exact ar _ ai|exact ar _ p)
           (first|(
                   go_at_call 168;refine bw.mono ?_;rintro e w8 ⟨rfl,ad⟩
                   rw[HY.out];have p:=Hd (ai.trans ad);have a9:=Hd (a6.later p);have au:=M3 a9.map a9.at_ cl;rw[HJ.out]at au;simp only[Option.getD_none,Option.isSome_none]at au;obtain⟨J,eo,ej,de⟩:=NF a9.map gy cl (c:=l.length) i6;have fh:=Hd ej;have fc:=Hd de;have ah:Hid (Am (·=mm) w8 J):=Hd (Am.of_map de);have ec:bq<w8.heap.size:=A0 d9 p.size;have gm:oT J (bq,oq)=oM (oH oO y):=(ah.cell ec (fun e=>by have:=ds.2.1;have:=f7.out;omega) oq).trans ((p.cell (p:=⟨bq,oq,oN⟩) d9).trans dc)
                   have dq:Hid (Below w w J):=Hd (a9.below.trans (ah.below a9.below.size (fun q hq e=>by have:=ds.2.1;omega)));have ff:=Hd (dt J.drew dq.drew);clear ej de ad))
          go_upto_region 17 with fail
          have fm:Hid (J.ownsRow w 274 3 (oG (a5,0) l.length ag) l.length (l.flatMap Fz)):=Hd (ah.own a9.row (fun b R=>Hm a9.map a9.row b R));have gh:bq<J.heap.size:=A0 ec ah.size;go_region_law (first
           | (
             go_simp;go_at_call 182;refine ff.mono ?_;rintro e b6 ⟨t0,rfl,az,bc,b5,b4,hb10⟩;have ao:Hid (Below J J b6):=Hd (((Below.refl _ J).drew).trans hb10);have ix:oT b6 (bq,oq)=oM (oH oO y):=(ao.cell (p:=⟨bq,oq,oN⟩) gh).trans gm;have d2:Hid (t0.n=g.nt+1/\(J.heap.size<=t0.h/\J.heap.size<=t0.wb)/\AQ b6 t0 0):=Hd ⟨az,⟨bc,b5⟩,b4⟩;have bh:=Hd (DM b6 (oP #[oH oO y,(t0.h,0),oK false] 274));unfold AH.v;clear az bc b5 b4 hb10)
           | (
             refine ER WU (.tmp 86) (.tmp 93) ?_ ?_ (base:=w.heap.size) (n:=l.length) (m:=1) (N:=l.length+1) (v:=oG (a5,0) l.length ag) (src:=oG (b6,0) 1 1) (xs:=l.flatMap Fz) (news:=Fz (t0,⟨y,0,false⟩)) ?_ ?_ ?_ ?_ ?_ ?_ ?_ ?_ ?_
             · rfl
             · rfl
             · rfl
             · rfl
             · exact AU (AU fm ao) bh
             · exact Be.Aj (c:=1) (cs:=Fz (t0,⟨y,0,false⟩)) (Ah.new b6 274 _) rfl (fun u hu=>by unfold Fz at hu;simp at hu;rcases hu with rfl|rfl|rfl<;>rfl)
             · rfl
             · unfold maxLen;omega
             · omega
             · have P:=dq.size;have h2:=ao.size;simp;omega
             intro ij g8 aw r1 I r3;have fi:=a9.more HJ fh fc (ao.trans (bh.mono ao.size)) (d2.2.2.later bh) d2.1 d2.2.1 r1 I;obtain⟨bf,gb,cz⟩:=fi;subst gb;have cz:=Hd cz;have em:bf≠t:=by
               rcases r3.2 with e|e
               · have e2:oM bf=oM a5:=e
                 cases e2;exact b0
               · have e2:oM bf=oM (b6.alloc (oP #[oH oO y,(t0.h,0),oK false] 274)).heap.size:=e
                 have P:=a7.lt;have h2:=p.size;have h3:=ah.size;have h4:=ao.size;have h5:=bh.size;have h6:=Option.some.inj e2;omega
             have bv:Hid (Am (fun q=>q=mm\/q=a5) w8 aw):=Hd (((ah.mono fun q hq=>.inl hq).next (Am.AJ (ao.trans (bh.mono ao.size)))).next ((Am.CM r3.1).mono fun q hq=>.inr (by cases hq;rfl)));clear r1 I r3))
          all_goals go_upto_region 18 with fail
          all_goals
           obtain⟨i9,ia,ib,ic,ie,ig,ih⟩:=bz w8 aw p _ bv bl;have d4:=Hd (bv.Aj (a7.below p a7.lt) (fun e=>(bl t e).2 rfl));have fy:Hid (Ca (Old w.heap.size) aw (oG (bk,ok) nr ck) rules):=Hd ((b9.AA (Am.AJ (X:=fun _=>False) p) (fun _ _=>id)).AA bv (fun b R e=>by have:=(bl b e).1;unfold Old at R;omega));have fv:Hid (AQ aw ht a8.1):=Hd ((dx.later p).AA bv (fun e=>by have P:=(bl _ e).1;have h2:=fu.out;omega) (fun e=>by have P:=(bl _ e).1;have h2:=fw.out;omega))
           obtain⟨Z9,ax⟩:∃Z9,l++[(t0,⟨y,0,false⟩)]=Z9:=⟨_,rfl⟩
           have e9:Z9.length=l.length+1:=by rw[<-ax];simp
           have d7:Z9[i]?=oM (U,ci):=by rw[<-ax,gL gs];exact g5
           have cb:Z9[l.length]?=oM (t0,⟨y,0,false⟩):=by rw[<-ax];simp
           have ea:(Z9.set l.length (t0,rr.1)).map (fun z:AH×AV=>z.2)=(l.map (fun z:AH×AV=>z.2)++[(⟨y,0,false⟩:AV)]).set l.length rr.1:=by rw[<-ax,List.map_set,BB];rfl
           have eb:∀z∈Z9.set l.length (t0,rr.1),z.2.s<=g.top:=fun z hz=>by
            rcases List.mem_or_eq_of_mem_set hz with P|rfl
            · rw[<-ax]at P
              rcases mA.1 P with h2|h2
              · exact bb z h2
              · rw[mS.1 h2];exact f3
            · simp only;rw[fp.out];exact f3
           have e8:(Z9.set l.length (t0,rr.1))[i]?=oM (U,ci):=by rw[uG nX,d7]
           have b8:=cz.out;rw[ax]at b8;have ae:=(b8.later (((Below.refl _ aw).drew))).hand (mp:=oI (mb,0)) (sx:=o.s) (xs:=o.self) (emp:=a8.2) d7 cb (fv.later ((Below.refl _ aw).drew)) ez dn;simp only[show CH o.self ci.set (⟨y,0,false⟩:AV) (i==l.length) (a8.1,a8.2)=rr from fo.out]at ae;have ae:=Hd ae;have g6:=Hd ea;have g7:=Hd eb;have g4:=Hd e8;have fk:Hid (w.heap.size<=bf):=Hd (by obtain⟨_,_,hh⟩:=b8.Aj;exact hh);have ft:Hid (w.heap.size<=t0.wb/\t0.wb≠t):=Hd (by have h0:=b8.new _ (mG cb);exact⟨h0.2,fun e=>Ah.Bb d4 (b8.Ll cb).1.words nY e.symm⟩)
           have dy:Hid (∀q,(q=bf\/q=t0.wb)->w.heap.size<=q/\q≠t):=Hd (fun q hq=>by
            rcases hq with rfl|rfl
            · exact⟨fk,em⟩
            · exact ft)
           clear ax d7 cb ea eb e8 b8;have c9:=Hd e9;clear e9;obtain⟨rc,rb⟩:=rr;simp only at ae
          all_goals cases rb
          all_goals
           first|(go_region_law (first|(
                         go_simp;go_at_call 217;refine ae.mono ?_;rintro e b7 ⟨rfl,eu,db⟩;have aj:=Hd eu;have bm:=Hd (db.Aj (d4.below ((Below.refl _ aw).drew) d4.lt) (fun e=>(dy t e).2 rfl));have bj:Hid (Ca (Old w.heap.size) b7 (oG (bk,ok) nr ck) rules):=Hd ((fy.AA (Am.AJ (X:=fun _=>False) ((Below.refl _ aw).drew)) (fun _ _=>id)).AA db (fun b R e=>by have:=(dy b e).1;unfold Old at R;omega));clear eu db)))|fail
          all_goals go_wp2_with (
                       at_builtin;refine Pm Ib (.tmp 114) (.tmp 116) rfl rfl (base:=w.heap.size) (n:=a4.length) (m:=1) (N:=a4.length+1) (xs:=a4.map AY) (news:=[oH oO l.length]) rfl rfl (aj.later (AG b7 (oP #[l.length] 3))).Jw (Be.Aj (c:=1) (cs:=[oH oO l.length]) (Ah.new b7 3 _) rfl oE) nX rfl oB nX (aj.later (AG b7 (oP #[l.length] 3))).below.size ?_
                       intro f6 g9 jt r1 I r3;have d0:=Hd ((aj.later (AG b7 (oP #[l.length] 3))).QK (i:=l.length) (by rw[List.length_set,c9.out];omega) r1 I);have d5:=Hd (I.Aj (bm.alloc (oP #[l.length] 3)) (.inr nY));have d3:=Hd ((bj.AA (Am.AJ (X:=fun _=>False) (AG b7 (oP #[l.length] 3))) (fun _ _=>id)).AA (X:=fun b=>w.heap.size<=b) ⟨I.os,I.tape,I.output,I.size,fun q hq U=>I.block q hq (.inl nX)⟩ (fun b R e=>by unfold Old at R;omega));clear r1 I r3)
          all_goals go_roundw
          all_goals first
           | (simp[intOf];omega)
           | exact⟨k+1,af+1,bf,g8,Z9.set l.length (t0,rc),a4++[l.length],_,nX,oD,by rw[List.length_set,c9.out],Hd (by simpa using d0.out),d5,em,Hd ((congrArg (fun i7=>(i7,a4++[l.length])) g6).trans bx.symm),Hd ⟨_,g4⟩,by rw[List.length_set,c9.out];omega,by rw[List.length_set,c9.out];omega,oC,g7,d3⟩
     ·obtain rfl:k=nr:=by omega
      have fa:Hid (g.Hf T n (l.map (·.2)) a4=oM CC):=Hd (by have h:=f9.out;have h2:=dr.out;rw[Da (by rw[du.out];omega)]at h2;rw[<-h2]at h;exact h)
      go_wp2_with fail
      go_step3
      refine Ti ?_;exact⟨n,Nat.lt_succ_self n,mm,af,a5,ag,_,l,a4,D',a6,fa,dj,nX,bb,rfl⟩
structure EY(w:oU)(B g n c:Nat)(R:List (oV×List Nat)):Prop where
 row:w.ownsRow B 22 1 (oG (g,0) n c) n (R.map (·.1))
 own:∀(k:Nat) (x:oV×List Nat),R[k]?=oM x->w.ownsRow B 3 1 x.1 x.2.length (x.2.map AY)
 apart:∀(i j:Nat) (x y:oV×List Nat),R[i]?=oM x->R[j]?=oM y->i≠j->∀k,x.1.ownBlock=oM k->y.1.ownBlock≠oM k
def EY.len{w:oU}{B g n c:Nat}{R:List (oV×List Nat)}(h:EY w B g n c R):R.length=n:=by have:=h.row.1;simpa using this
def EY.later{w:oU}{B g n c:Nat}{R:List (oV×List Nat)}(h:EY w B g n c R)(i:Below w w w'):EY w' B g n c R:=
 ⟨AU h.row i,fun k x j=>AU (h.own k x j) i,h.apart⟩
def EY.AA{w:oU}{B g n c:Nat}{R:List (oV×List Nat)}(h:EY w B g n c R)(i:Am X w w')(o:¬X g)(l:∀(k:Nat) (x:oV×List Nat),R[k]?=oM x->∀b,x.1.ownBlock=oM b->¬X b):EY w' B g n c R:=
 ⟨i.own h.row (fun k p=>by cases p;exact o),fun k x j=>i.own (h.own k x j) (l k x j),h.apart⟩
def EY.Aj{w:oU}{B g n c:Nat}{R:List (oV×List Nat)}(h:EY w B g n c R):∃i,Ah w g 22 i:=by
 rcases h.row.2 with⟨j,_⟩|⟨o,cap,i,j,p,l,_⟩
 ·cases j
 ·cases j;exact⟨i,l⟩
def EY.put{w o:oU}{B g n c:Nat}{R:List (oV×List Nat)}(h:EY w B g n c R)(hW:Below w w W){x:oV×List Nat}(hx:R[s]?=oM x){l:List Nat}
  (r1:o.ownsRow B 3 1 nv l.length (l.map AY)) (r2:AI B [3] W o) (r3:W.grownBy o x.1.ownBlock/\(nv.ownBlock=x.1.ownBlock\/nv.ownBlock=oM W.heap.size)):EY (o.setCell (g,s) nv) B g n c (R.set s (nv,l)):=by
 have t:=h.later hW;obtain⟨U,a9⟩:=sG.1 hx;have a8:=h.len;obtain⟨a7,a4⟩:=t.Aj;have a2:=r2.Aj a4 (.inr nY);have hc:Am (·=g) o (o.setCell (g,s) nv):=Am.set (X:=(·=g)) (Am.refl _ o) (p:=⟨g,s,oN⟩) (.inr rfl) _;have a5:=r2.own t.row (.inr nY);refine⟨?_,?_,?_⟩
 ·have:=Ge a5 s nX nv
  rw[List.map_set];exact this
 ·intro k y j
  by_cases T:k=s
  ·subst T
   rw[tG U]at j;cases j
   exact hc.own r1 (FB r1 a2 nY)
  ·rw[uG (fun e=>T e.symm)]at j
   have a6:=t.own k y j;have a3:o.ownsRow B 3 1 y.1 y.2.length (y.2.map AY):=(Am.CM r3.1).own a6 (fun b i he=>h.apart s k x y hx j (fun e=>T e.symm) b he i);exact hc.own a3 (FB a3 a2 nY)
 ·intro a0 a1 a b ha i P k C I
  have key:∀(m:Nat) (y:oV×List Nat),R[m]?=oM y->m≠s->∀k,nv.ownBlock=oM k->y.1.ownBlock≠oM k:=fun m y j hm k p h2=>by
   rcases r3.2 with e|e
   ·rw[e]at p
    exact h.apart s m x y hx j (fun e=>hm e.symm) k p h2
   ·rw[e]at p
    cases p
    have:=(B6 (t.own m y j) _ h2).1;omega
  by_cases J:a0=s
  ·subst J
   rw[tG U]at ha;cases ha
   rw[uG P]at i;exact key a1 b i (fun e=>P e.symm) k C I
  ·rw[uG (fun e=>J e.symm)]at ha
   by_cases hj:a1=s
   ·subst hj
    rw[tG U]at i;cases i
    exact key a0 a ha J k I C
   ·rw[uG (fun e=>hj e.symm)]at i
    exact h.apart a0 a1 a b ha i P k C I
def EY.fresh(w:oU){B n:Nat}(p:B<=w.heap.size)(I:n<=100000):EY (w.alloc (oP (Array.replicate n (oG oN 0 0)) 22)) B w.heap.size n n (List.replicate n (oG oN 0 0,[])):=by
 refine⟨⟨oA,.inr ⟨w.heap.size,n,_,rfl,p,Ah.new w _ _,Ay _,oB,oA,oA⟩⟩,fun k x l=>?_,fun i j x y l J C k t=>?_⟩
 ·obtain⟨o,rfl⟩:=sG.1 l
  simp;exact⟨rfl,.inl ⟨rfl,rfl⟩⟩
 ·obtain⟨o,rfl⟩:=sG.1 l
  simp[Value.ownBlock]at t
def Mz(l w:oU)(g:Gz)(k:Nat)(e:Ending)(w':oU):Prop:=∃i,e=oQ (.tuple #[.agg #[oH oO ((g.Br k).1:Nat),i],oK true])/\BF w' i (g.right k)/\Below w w w'/\(k<g.R.length->BF l i (g.right k))/\(k=g.R.length->∃b,i=oG (oM ⟨b,0,oN⟩) 1 1/\w.heap.size<=b/\∃j,Ah w' b 3 j)
def Q5{l w:oU}{v:oV}{g:Gz}(h:GN l v g)(p:Below l l w){k:Nat}(hk:k<=g.R.length):() 59 #[v,oH oO k] w (Mz l w g k):=by
 have hf:=h.fit.nr;obtain⟨AT,cT,AN,cN,AR,cR,rfl,T,a1⟩:=h.open_;have J:∀k r,g.R[k]?=oM r->∃b off i,AR=oM ⟨b,off,oN⟩/\b<w.heap.size/\oT w ⟨b,off+k*2,oN⟩=oM (oH oO r.1)/\oT w ⟨b,off+k*2+1,oN⟩=oM i/\BF w i r.2/\BF l i r.2:=fun k r j=>by obtain⟨b,off,i,h1,I,h3,h4,R⟩:=T k r j;exact⟨b,off,i,h1,A0 I p.size,(p.cell (p:=⟨b,off+k*2,oN⟩) I).trans h3,(p.cell (p:=⟨b,off+k*2+1,oN⟩) I).trans h4,R.later p,R⟩
 clear T;by_cases t:k=g.R.length
 ·have o:g.Br k=(0,[g.s]):=by unfold Gz.Br;rw[if_pos t]
  unfold Mz Gz.right;rw[o];clear h J;generalize g.R.length=nR at *;subst t;generalize g.nt=nt at *;generalize g.nn=nn at *;generalize g.s=C at *;go_enter func59,ntmps59
  go_wp2_with fail
  refine bodyPost_ret (ME rfl rfl (Mw (b:=w.heap.size+1) (u:=oH oO 0) (rv:=oG (w.heap.size+1+1,0) 1 1) ?_ ?_)) rfl ?_
  ·exact(Ah.alloc (Ah.newAt oA) _).cell 0
  ·exact(Ah.alloc (Ah.newAt oA) _).cell 1
  ·refine⟨_,rfl,?_,((AG w _).alloc oA _).alloc oC _,fun h=>absurd h (Nat.lt_irrefl _),fun _=>⟨_,rfl,nX,_,Ah.newAt oA⟩⟩
   refine Hi (B:=0) (l:=[C]) ?_ oA;refine⟨rfl,.inr ⟨w.heap.size+1+1,1,#[C],rfl,AX _,?_,oA,nY,rfl,rfl⟩⟩;exact Ah.newAt oA
 ·obtain⟨r,j⟩:∃r,g.R[k]?=oM r:=⟨_,eG nX⟩
  obtain⟨b,off,i,rfl,hb,c0,c1,P,U⟩:=J k r j;have o:g.Br k=r:=by unfold Gz.Br;rw[if_neg t,dG,j];rfl
  unfold Mz Gz.right;rw[o];have HN:=Hd P;have a0:=Hd U;obtain⟨⟨ra,rc,rfl,-⟩,-,-⟩:=id P;have a2:k<g.R.length:=by omega
  clear h J P j o U;obtain⟨rl,rr⟩:=r;simp only at *;generalize rr.length=rn at *;generalize g.R.length=nR at *;generalize g.nt=nt at *;generalize g.nn=nn at *;generalize g.s=C at *;go_enter func59,ntmps59
  go_wp2_with fail
  refine bodyPost_ret (ME rfl rfl (Mw (b:=w.heap.size+1) (u:=oH oO rl) (rv:=oG ra rn rc) ?_ ?_)) rfl ?_
  ·exact(Ah.newAt oA).cell 0
  ·exact(Ah.newAt oA).cell 1
  ·exact⟨_,rfl,HN.later (((AG w _).alloc oA _)),((AG w _).alloc oA _),fun _=>a0,fun h=>absurd h t⟩
def MO:El Tryz.prog 77 22 1 24:=El.of (z:=oG oN 0 0) underlying77 nZ rfl nY
def Z5:El Tryz.prog 255 260 2 16:=El.of (z:=.agg #[oI oN,oK false]) underlying255 nZ rfl nY
def fG:El Tryz.prog 212 255 1 24:=El.of (z:=oG oN 0 0) underlying212 nZ rfl nY
abbrev Et(v lv rv tlv p l j i ev o:oV):Array oV:=v.cells++#[lv,rv,tlv,p,l,j,i,ev,o]
def Gz.GU(g:Gz)(k s:Nat):List Nat:=(List.range k).filter fun i=>(g.R.getD i (0,[])).1==s
def ZX(g:Gz)(s:Nat):g.GU g.R.length s=g.CJ s:=rfl
def Qa(g:Gz)(k s:Nat):g.GU (k+1) s=if (g.R.getD k (0,[])).1=s then g.GU k s++[k] else g.GU k s:=by
 unfold Gz.GU;rw[List.range_succ,List.filter_append];by_cases h:(g.R.getD k (0,[])).1=s
 ·have i:((g.R.getD k (0,[])).1==s)=true:=beq_iff_eq.2 h
  rw[if_pos h];simp only[List.filter_cons,i,List.filter_nil,if_true]
 ·have i:((g.R.getD k (0,[])).1==s)=false:=beq_false_of_ne h
  rw[if_neg h];simp only[List.filter_cons,i,List.filter_nil,Bool.false_eq_true,if_false,List.append_nil]
def iK(g:Gz)(k s:Nat):(g.GU k s).length<=k:=by unfold Gz.GU;have:=List.length_filter_le (fun i=>(g.R.getD i (0,[])).1==s) (List.range k);rwa [List.length_range]at this
def Z7{g:Gz}{k N:Nat}(I:(g.R.getD k (0,[])).1=s):((List.range N).map (g.GU k)).set s (g.GU k s++[k])=(List.range N).map (g.GU (k+1)):=by
 apply List.ext_getElem?;intro i;rw[List.getElem?_set];by_cases p:s=i
 ·subst p
  rw[if_pos rfl,lM,List.length_range,pG];by_cases l:s<N
  ·rw[if_pos l,List.getElem?_range l,Option.map_some,Qa,if_pos I]
  ·rw[if_neg l,nG oC];rfl
 ·rw[if_neg p,pG,pG]
  cases J:(List.range N)[i]? with
  | none=>rfl
  | some j=>
   have t:j=i:=by obtain⟨P,o⟩:=sG.1 J;rw[List.getElem_range]at o;exact o.symm
   subst t;rw[Option.map_some,Option.map_some,Qa,if_neg nX]
def Ca.mono{A:Nat->Prop}{w:oU}{v:oV}{l:List Nat}(h:Ca A w v l)(i:∀b,A b->A' b):Ca A' w v l:=⟨h.1,fun b j o=>i b (h.2 b j o)⟩
def Bq.mono{A:Nat->Prop}{w:oU}{v:oV}{n sz:Nat}{f':Nat->Nat->oV->Prop}(h:Bq A w v n sz f)(I:∀b,A b->A' b)(U:∀k j x,k<n->j<sz->f k j x->f' k j x):Bq A' w v n sz f':=by obtain⟨o,c,hv,hn,hm,hr⟩:=h;refine⟨o,c,hv,hn,hm,fun k l=>?_⟩;obtain⟨b,off,J,P,a0,hx⟩:=hr k l;refine⟨b,off,J,I b P,a0,fun j i=>?_⟩;obtain⟨x,p,t⟩:=hx j i;exact⟨x,p,U k j x l i t⟩
def Dq.mono{A:Nat->Prop}{w:oU}{v:oV}{n:Nat}{f:Nat->List Nat}(h:Dq A w v n f)(i:∀b,A b->A' b):Dq A' w v n f:=Bq.mono h i (fun k j x _ _ l=>l.mono i)
def Fl.mono{A:Nat->Prop}{w:oU}{v:oV}(h:Fl A w m v l)(i:∀b,A b->A' b):Fl A' w m v l:=Bq.mono h i (fun k j x _ _ p=>by
 split at p
 ·rename_i o
  rw[if_pos o];obtain⟨h,t,I,J,P,U⟩:=p;exact⟨h,t,I,J,i _ P,i _ U⟩
 ·rename_i o
  rw[if_neg o];exact p)
def F8.mono{A:Nat->Prop}{w:oU}{v:oV}{n:Nat}{T:List (List (Nat×Bool))}(h:F8 A w m v n T)(i:∀b,A b->A' b):F8 A' w m v n T:=Bq.mono h i (fun k j x _ _ l=>l.mono i)
def DW.mono{A:Nat->Prop}{w:oU}{v:oV}{l:List AV}(h:DW A w m v l)(j:∀b,A b->A' b):DW A' w m v l:=Bq.mono h j (fun k a0 x _ _ i=>by
 split at i
 ·rename_i o
  rw[if_pos o];exact i
 ·rename_i o
  rw[if_neg o];split at i
  ·rename_i p
   rw[if_pos p];obtain⟨h,t,I,J,P,U⟩:=i;exact⟨h,t,I,J,j _ P,j _ U⟩
  ·rename_i p
   rw[if_neg p];exact i)
def E9{w:oU}{B:Nat}{size n:Nat}{v:oV}{xs:List oV}(h:w.ownsRow B e size v n xs)(j:∀b cs,Ah w b e cs->¬X b):∀k,v.ownBlock=oM k->¬X k:=by
 intro k i;rcases Bj h with⟨rfl,_⟩|⟨b,c,rfl,_,_,_,_,o,l⟩
 ·cases i
 ·cases i
  exact j _ _ l
def Bq.MX{A:Nat->Prop}{w:oU}{B:Nat}{n:Nat}{v:oV}{XS:List oV}(h:w.ownsRow B e 1 v n XS)(U:n<=1000000)(I:∀b,B<=b->b<w.heap.size->A b)(J:∀i x,XS[i]?=oM x->f i 0 x):Bq A w v n 1 f:=by
 rcases Bj h with⟨rfl,rfl⟩|⟨b,c,rfl,p,l,t,_,_⟩
 ·exact⟨oN,0,rfl,Ay _,nX,fun k P=>by omega⟩
 ·refine⟨_,c,rfl,t,U,fun k P=>⟨b,0,rfl,I b p l,l,fun j hj=>?_⟩⟩
  obtain rfl:j=0:=by omega
  have hl:=h.1;have o:XS[k]?=oM (XS[k]'(by omega)):=eG nX;refine⟨_,?_,J k _ o⟩;rw[Nat.zero_add,Nat.add_zero,Nat.mul_one,Bh h k nX,o]
section
variable {w0 w w':oU} {F:Fs} {g:Gz} {E:Nat} {C:List Nat}
def BC.Rf(h:BC w0 w F g E C)(j:Am X w w')(I:∀b,X b->w0.heap.size<=b/\∃t cs,Ah w b t cs/\t≠299/\t≠269/\t≠264/\t≠218):BC w0 w' F g E C:=by
 have key:∀{b:Nat} {t:TypeId} {cs:Array oV},Ah w b t cs->(t=299\/t=269\/t=264\/t=218)->¬X b:=fun i U p=>by
  obtain⟨_,t',a2,l,n1,n2,n3,n4⟩:=I _ p;rcases U with rfl|rfl|rfl|rfl
  ·exact Ah.Bb i l (Ne.symm n1) rfl
  ·exact Ah.Bb i l (Ne.symm n2) rfl
  ·exact Ah.Bb i l (Ne.symm n3) rfl
  ·exact Ah.Bb i l (Ne.symm n4) rfl
 have J:∀{s:AH} {S:Nat},AQ w s S->AQ w' s S:=fun o=>o.AA j (key o.head (.inr (.inl rfl))) (key o.words (.inr (.inr (.inl rfl))))
 refine⟨⟨j.Aj h.at_.Aj (key h.at_.Aj (.inl rfl)),J h.at_.e,h.at_.en,h.at_.Ih,j.own h.at_.bv (E9 h.at_.bv fun b cs i=>key i (.inr (.inr (.inr rfl)))),j.own h.at_.hv (E9 h.at_.hv fun b cs i=>key i (.inr (.inr (.inr rfl)))),h.at_.top⟩,⟨h.AM.len,h.AM.room,fun a0 a1 P=>J (h.AM.at_ a0 a1 P),h.AM.apart⟩,h.ne,h.new,h.below.trans (j.below h.below.size fun k hk p=>by have:=(I k p).1;omega)⟩
def BC.Bz{j:oU}(h:BC w j F g E C)(i:Below w0 w0 w):BC w0 j F g E C:=by have o:=i.size;obtain⟨I,J,P,t⟩:=h.new;exact⟨h.at_,h.AM,h.ne,⟨nX,nX,nX,fun p l=>by have:=t p l;omega⟩,i.trans (h.below.mono o)⟩
end
def Rg(w0 w wr:oU)(k n b:Nat):Prop:=b<w0.heap.size\/(n<k/\w.heap.size<=b/\∃i,Ah wr b 3 i)
def Kx(lo j:Nat)(wr:oU)(b:Nat):Prop:=lo<=b/\b<j/\∃t i,Ah wr b t i/\(t=260\/t=269\/t=264)
structure Kf(w0 w wr:oU)(F:Fs)(g:Gz)(E:Nat)(C:List Nat)(RV TV:List oV)(T:List (List (Nat×Bool))):Prop where
 below:Below w0 w0 wr
 size:w.heap.size<=wr.heap.size
 base:w0.heap.size<=w.heap.size
 fst:BC w0 wr F g E C
 Ha:∀(i:Nat) (x:oV),RV[i]?=oM x->Ca (Rg w0 w wr RV.length g.R.length) wr x (g.right i)
 Ke:∀(i:Nat) (x:oV),TV[i]?=oM x->Fl (Kx w.heap.size wr.heap.size wr) wr (g.nt+1) x (T.getD i [])
section
variable {w0 w wr w2 w3:oU} {F:Fs} {g:Gz} {E:Nat} {C:List Nat} {RV TV:List oV} {T:List (List (Nat×Bool))}
def Kf.BZ(h:Kf w0 w wr F g E C RV TV T)(p:Am X wr w2)(P:∀b,X b->w0.heap.size<=b/\∃t cs,Ah wr b t cs/\t≠299/\t≠269/\t≠264/\t≠218/\t≠260/\(t=3->RV.length<=g.R.length)):Kf w0 w w2 F g E C RV TV T:=by
 have hs:=p.size;have a4:=h.size;refine⟨h.below.trans (p.below h.below.size fun k hk l=>by have:=(P k l).1;omega),nX,h.base,h.fst.Rf p fun b i=>?_,fun a0 x l=>?_,fun a0 x l=>?_⟩
 ·obtain⟨h1,t,cs,o,n1,n2,n3,n4,_⟩:=P b i
  exact⟨h1,t,cs,o,n1,n2,n3,n4⟩
 ·have no:∀b,Rg w0 w wr RV.length g.R.length b->¬X b:=fun b i l=>by
   obtain⟨h1,t,cs,o,_,_,_,_,_,n6⟩:=P b l;rcases i with i|⟨U,a3,J,j⟩
   ·omega
   ·by_cases I:t=3
    ·have:=n6 I;omega
    ·exact Ah.Bb o j I rfl
  refine((h.Ha a0 x l).AA p no).mono fun b i=>?_
  rcases id i with U|⟨U,a3,J,j⟩
  ·exact .inl U
  ·exact .inr ⟨U,a3,J,p.Aj j (no b i)⟩
 ·have no:∀b,Kx w.heap.size wr.heap.size wr b->¬X b:=fun b i l=>by
   obtain⟨h1,t,cs,o,n1,n2,n3,n4,n5,n6⟩:=P b l;obtain⟨_,_,t',J,j,I⟩:=i;rcases I with rfl|rfl|rfl
   ·exact Ah.Bb o j n5 rfl
   ·exact Ah.Bb o j n2 rfl
   ·exact Ah.Bb o j n3 rfl
  refine((h.Ke a0 x l).AA p no).mono fun b i=>?_
  obtain⟨a1,a2,t',J,j,I⟩:=id i;exact⟨a1,nX,t',J,p.Aj j (no b i),I⟩
def Kf.later(h:Kf w0 w wr F g E C RV TV T)(i:Below wr wr w2):Kf w0 w w2 F g E C RV TV T:=h.BZ (X:=fun _=>False) (Am.AJ i) (fun b i=>i.elim)
structure Cv(w0 w wr:oU)(F:Fs)(g:Gz)(E:Nat)(C:List Nat)(rv tlv:oV)(ub uc kr:Nat)(RV TV:List oV)(R:List (oV×List Nat))(T:List (List (Nat×Bool))):Prop where
 CR:Kf w0 w wr F g E C RV TV T
 Hl:wr.ownsRow w 22 1 rv RV.length RV
 AM:EY wr w.heap.size ub (g.top+1) uc R
 lists:R.map (·.2)=(List.range (g.top+1)).map (g.GU kr)
 Hw:wr.ownsRow w 255 1 tlv TV.length TV
 ne:rv.ownBlock≠oM ub
variable {rv tlv:oV} {ub uc kr:Nat} {R:List (oV×List Nat)}
def Cv.later(h:Cv w0 w wr F g E C rv tlv ub uc kr RV TV R T)(i:Below wr wr w2):Cv w0 w w2 F g E C rv tlv ub uc kr RV TV R T:=
 ⟨h.CR.later i,AU h.Hl i,h.AM.later i,h.lists,AU h.Hw i,h.ne⟩
def Cv.S3(h:Cv w0 w wr F g E C rv tlv ub uc kr RV TV R T){mb:Nat}{t:TypeId}(o:Ah wr mb t cs)(h0:w0.heap.size<=mb)(n1:t≠299)(n2:t≠269)(n3:t≠264)(n4:t≠218)(n5:t≠260)(p:t≠3)(I:t≠22)(n8:t≠255)(j:Nat)(u:oV):Cv w0 w (wr.setCell (mb,j) u) F g E C rv tlv ub uc kr RV TV R T:=by
 have l:Am (·=mb) wr (wr.setCell (mb,j) u):=Am.set (X:=(·=mb)) (Am.refl _ wr) (p:=⟨mb,j,oN⟩) (.inr rfl) _;have no:∀{b:Nat} {J:TypeId} {cs:Array oV},Ah wr b J cs->t≠J->¬b=mb:=fun i U e=>by subst e;exact Ah.Bb o i U rfl
 refine⟨h.CR.BZ l fun b i=>?_,l.own h.Hl (E9 h.Hl fun b cs i=>no i I),h.AM.AA l ?_ (fun k x hx=>E9 (h.AM.own k x hx) fun b cs i=>no i p),h.lists,l.own h.Hw (E9 h.Hw fun b cs i=>no i n8),h.ne⟩
 ·subst i
  exact⟨h0,_,_,o,n1,n2,n3,n4,n5,fun e=>absurd e p⟩
 ·obtain⟨a0,P⟩:=h.AM.Aj
  exact no P I
def Cv.Bz(h:Cv w0 w wr F g E C rv tlv ub uc kr RV TV R T){mb:Nat}(i:Ah wr mb 217 cs)(h0:w0.heap.size<=mb)(j:Nat)(u:oV):Cv w0 w (wr.setCell (mb,j) u) F g E C rv tlv ub uc kr RV TV R T:=
 h.S3 i h0 nY nY nY nY nY nY nY nY j u
def Cv.mQ(h:Cv w0 w wr F g E C rv tlv ub uc kr RV TV R T)(hk:RV.length<=g.R.length){x:oV}{c:Nat}(r1:w3.ownsRow w 22 1 (oG A (RV.length+1) c) (RV.length+1) (RV++[x]))(r3:wr.grownBy w3 rv.ownBlock/\((Value.slice A (RV.length+1) c).ownBlock=rv.ownBlock\/(Value.slice A (RV.length+1) c).ownBlock=oM wr.heap.size))
  (U:BF wr x (g.right RV.length)) (aa:RV.length<g.R.length->BF w0 x (g.right RV.length)) (ab:RV.length=g.R.length->∃b,x=oG (oM ⟨b,0,oN⟩) 1 1/\w.heap.size<=b/\∃cs,Ah wr b 3 cs):Cv w0 w w3 F g E C (oG A (RV.length+1) c) tlv ub uc kr (RV++[x]) TV R T:=by
 have p:Am (fun k=>rv.ownBlock=oM k) wr w3:=Am.CM r3.1;have hX:∀b,rv.ownBlock=oM b->w0.heap.size<=b/\∃cs,Ah wr b 22 cs:=fun b i=>by
  rcases Bj h.Hl with⟨l,_⟩|⟨b',c',l,o,_,_,_,a1,h3⟩
  ·rw[l]at i;cases i
  ·rw[l]at i
   have e:b'=b:=by simpa [Value.ownBlock] using i
   subst e;exact⟨AW h.CR.base o,a1,h3⟩
 have no:∀{b:Nat} {a2:TypeId} {cs:Array oV},Ah wr b a2 cs->a2≠22->¬rv.ownBlock=oM b:=fun i ht e=>by obtain⟨_,cs,o⟩:=hX _ e;exact Ah.Bb i o ht rfl
 have j:=h.CR.BZ p fun b i=>by obtain⟨l,cs,o⟩:=hX b i;exact⟨l,_,cs,o,nY,nY,nY,nY,nY,fun e=>by cases e⟩
 obtain⟨a1,a7⟩:=h.AM.Aj;refine⟨⟨j.below,j.size,j.base,j.fst,fun a0 y I=>?_,j.Ke⟩,by simpa using r1,h.AM.AA p (fun e=>h.ne e) (fun k x U=>E9 (h.AM.own k x U) fun b cs i=>no i nY),h.lists,p.own h.Hw (E9 h.Hw fun b cs i=>no i nY),?_⟩
 ·by_cases hi:a0<RV.length
  ·rw[gL hi]at I
   refine(j.Ha a0 y I).mono fun b i=>?_
   rcases i with i|⟨l,_⟩
   ·exact .inl i
   ·omega
  ·have P:=(sG.1 I).1
   simp at P;obtain rfl:a0=RV.length:=by omega
   simp at I;subst I;rcases Nat.lt_or_ge RV.length g.R.length with a8|ad
   ·have h0:=aa a8
    refine⟨h0.later j.below,fun b i P=>.inl ?_⟩;obtain⟨⟨Ad,c',hv,a6⟩,_,_⟩:=h0;obtain⟨b2,off,a3,ae,_⟩:=a6 0 _ (eG P);rw[hv,a3]at i;have e:b2=b:=by simpa [Value.ownBlock] using i
    omega
   ·obtain⟨b,rfl,a4,cs,J⟩:=ab nX
    have a5:=p.Aj J (no J nY);have a9:Ca (fun q=>q=b) wr (oG (oM ⟨b,0,oN⟩) 1 1) (g.right RV.length):=⟨U,fun q t _=>by
     have e:b=q:=by simpa [Value.ownBlock] using t
     exact e.symm⟩
    refine(a9.AA p fun q t=>by subst t;exact no J nY).mono fun q t=>?_
    subst t;exact .inr ⟨oC,a4,cs,a5⟩
 ·rcases r3.2 with e|e
  ·rw[e];exact h.ne
  ·rw[e]
   intro e2;have e3:wr.heap.size=ub:=by simpa using e2
   have:=a7.lt;omega
def Cv.Yb(h:Cv w0 w wr F g E C rv tlv ub uc kr RV TV R T)(U:RV.length<=g.R.length){x:oV×List Nat}(hx:R[s]?=oM x)(hs:(g.R.getD kr (0,[])).1=s)(hW:Below wr wr W)
  (r1:w3.ownsRow w 3 1 nv (x.2.length+1) (x.2.map AY++[oH oO (kr:Nat)])) (r2:AI w [3] W w3) (r3:W.grownBy w3 x.1.ownBlock/\(nv.ownBlock=x.1.ownBlock\/nv.ownBlock=oM W.heap.size)):∃R',Cv w0 w (w3.setCell (ub,s) nv) F g E C rv tlv ub uc (kr+1) RV TV R' T:=by
 have p:=h.later hW;have I:Am (fun k=>x.1.ownBlock=oM k) W w3:=Am.CM r3.1;have a5:=p.AM.own s x hx;have hX:∀b,x.1.ownBlock=oM b->w0.heap.size<=b/\∃j,Ah W b 3 j:=fun b i=>by
  rcases Bj a5 with⟨t,_⟩|⟨b',c',t,l,_,_,_,J,o⟩
  ·rw[t]at i;cases i
  ·rw[t]at i
   have e:b'=b:=by simpa [Value.ownBlock] using i
   subst e;exact⟨AW h.CR.base l,J,o⟩
 have no:∀{b:Nat} {a3:TypeId} {j:Array oV},Ah W b a3 j->a3≠3->¬x.1.ownBlock=oM b:=fun i ht e=>by obtain⟨_,j,l⟩:=hX _ e;exact Ah.Bb i l ht rfl
 have hf:=p.CR.BZ I fun b i=>by obtain⟨t,j,l⟩:=hX b i;exact⟨t,_,j,l,nY,nY,nY,nY,nY,fun _=>U⟩
 have a4:=h.AM.put hW hx (nv:=nv) (l:=x.2++[kr]) (by rw[Cb,BB];exact r1) r2 r3;obtain⟨J,a0⟩:=p.AM.Aj;have a7:w.heap.size<=ub:=(B6 h.AM.row ub rfl).2;have a1:Ah w3 ub 22 J:=I.Aj a0 (no a0 nY);have P:Am (·=ub) w3 (w3.setCell (ub,s) nv):=Am.set (X:=(·=ub)) (Am.refl _ w3) (p:=⟨ub,s,oN⟩) (.inr rfl) _;have a6:=I.own p.Hl (E9 p.Hl fun b j i=>no i nY);have a2:=I.own p.Hw (E9 p.Hw fun b j i=>no i nY);refine⟨R.set s (nv,x.2++[kr]),hf.BZ P fun b i=>?_,P.own a6 (fun k U e=>h.ne (by rw[U,e])),a4,?_,P.own a2 (E9 a2 fun b j i e=>by subst e;exact Ah.Bb i a1 nY rfl),h.ne⟩
 ·subst i
  have:=h.CR.base;exact⟨nX,_,_,a1,nY,nY,nY,nY,nY,fun e=>by cases e⟩
 ·have l:x.2=g.GU kr s:=by
   have o:(R.map (·.2))[s]?=oM x.2:=by rw[pG,hx];rfl
   rw[h.lists,pG]at o;cases hq:(List.range (g.top+1))[s]? with
   | none=>rw[hq]at o;cases o
   | some a8=>rw[hq]at o;obtain⟨h4,h5⟩:=sG.1 hq;rw[List.getElem_range]at h5;subst h5;simpa using o.symm
  rw[List.map_set,h.lists,<-Z7 hs,l]
def Cv.LN(h:Cv w0 w wr F g E C rv tlv ub uc kr RV TV R T){x:oV}{c:Nat}(r1:w3.ownsRow w 255 1 (oG A (TV.length+1) c) (TV.length+1) (TV++[x]))(r3:wr.grownBy w3 tlv.ownBlock)
  (hx:Fl (Kx w.heap.size wr.heap.size wr) wr (g.nt+1) x l) (hT:T.length=TV.length):Cv w0 w w3 F g E C rv (oG A (TV.length+1) c) ub uc kr RV (TV++[x]) R (T++[l]):=by
 have o:Am (fun k=>tlv.ownBlock=oM k) wr w3:=Am.CM r3;have hX:∀b,tlv.ownBlock=oM b->w0.heap.size<=b/\∃j,Ah wr b 255 j:=fun b i=>by
  rcases Bj h.Hw with⟨t,_⟩|⟨b',c',t,I,_,_,_,a4,h3⟩
  ·rw[t]at i;cases i
  ·rw[t]at i
   have e:b'=b:=by simpa [Value.ownBlock] using i
   subst e;exact⟨AW h.CR.base I,a4,h3⟩
 have no:∀{b:Nat} {a6:TypeId} {j:Array oV},Ah wr b a6 j->a6≠255->¬tlv.ownBlock=oM b:=fun i P e=>by obtain⟨_,j,I⟩:=hX _ e;exact Ah.Bb i I P rfl
 have p:=h.CR.BZ o fun b i=>by obtain⟨t,j,I⟩:=hX b i;exact⟨t,_,j,I,nY,nY,nY,nY,nY,fun e=>by cases e⟩
 obtain⟨a4,a7⟩:=h.AM.Aj;refine⟨⟨p.below,p.size,p.base,p.fst,p.Ha,fun a0 y U=>?_⟩,o.own h.Hl (E9 h.Hl fun b j i=>no i nY),h.AM.AA o (no a7 nY) (fun k x hx=>E9 (h.AM.own k x hx) fun b j i=>no i nY),h.lists,by simpa using r1,h.ne⟩;by_cases hi:a0<TV.length
 ·rw[gL hi]at U
  rw[dG,gL nX,<-dG];exact p.Ke a0 y U
 ·have hl:=(sG.1 U).1
  simp at hl;obtain rfl:a0=TV.length:=by omega
  simp at U;subst U;rw[dG,<-hT];simp only[List.getElem?_concat_length,Option.getD_some];have a5:∀b,Kx w.heap.size wr.heap.size wr b->¬tlv.ownBlock=oM b:=fun b i=>by
   obtain⟨_,_,t',a3,J,P⟩:=i;rcases P with rfl|rfl|rfl
   ·exact no J nY
   ·exact no J nY
   ·exact no J nY
  have hs:=o.size;refine(hx.AA o a5).mono fun b i=>?_
  obtain⟨a1,a2,t',a3,J,P⟩:=id i;exact⟨a1,nX,t',a3,o.Aj J (a5 b i),P⟩
def Hp(w0 w wr:oU)(b:Nat):Prop:=(b<w0.heap.size\/w.heap.size<=b)/\b<wr.heap.size
def Cv.done(h:Cv w0 w wr F g E C rv tlv ub uc g.R.length RV TV R T)(h1:RV.length=g.R.length+1)(h2:TV.length=g.R.length+1)(hn:g.R.length<=300)(ht:g.top<=1000) :
  Dq (Hp w0 w wr) wr rv (g.R.length+1) g.right/\F8 (Hp w0 w wr) wr (g.nt+1) tlv (g.R.length+1) T/\Dq (Hp w0 w wr) wr (oG (ub,0) (g.top+1) uc) (g.top+1) g.CJ:=by
 have o:∀b,w.heap.size<=b->b<wr.heap.size->Hp w0 w wr b:=fun b I J=>⟨.inr I,J⟩
 have r1:=h.Hl;have r2:=h.Hw;rw[h1]at r1;rw[h2]at r2;have a1:=h.CR.below.size;refine⟨Bq.MX r1 nX o fun i x l=>(h.CR.Ha i x l).mono fun b j=>?_,Bq.MX r2 nX o fun i x l=>(h.CR.Ke i x l).mono fun b j=>o b j.1 j.2.1,Bq.MX h.AM.row nX o fun i x l=>?_⟩
 ·rcases j with j|⟨_,j,cs,a0⟩
  ·exact⟨.inl j,nX⟩
  ·exact o b j a0.lt
 ·rw[pG]at l
  cases t:R[i]? with
  | none=>rw[t]at l;cases l
  | some y=>
   rw[t]at l;cases l
   have ho:=h.AM.own i y t;have p:(R.map (·.2))[i]?=oM y.2:=by rw[pG,t];rfl
   rw[h.lists,pG]at p;have P:y.2=g.CJ i:=by
    cases U:(List.range (g.top+1))[i]? with
    | none=>rw[U]at p;cases p
    | some a3=>rw[U]at p;obtain⟨P,h5⟩:=sG.1 U;rw[List.getElem_range]at h5;subst h5;rw[<-ZX];simpa using p.symm
   have a2:y.2.length<=300:=by rw[P];exact AW (L2 g i) hn
   show Ca _ wr y.1 (g.CJ i);rw[<-P];refine⟨Hi ho nX,fun b j _=>?_⟩;obtain⟨I,J⟩:=B6 ho b j;exact o b J I
end
variable{T:List TypeId}
def Oo:El Tryz.prog 215 272 4 32:=El.of (z:=.agg #[oH oO 0,oH oO 0,oI oN,oK false]) underlying215 nZ rfl nY
def Yo:El Tryz.prog 278 280 2 16:=El.of (z:=.agg #[oH oO 0,oH oO 0]) underlying278 nZ rfl nY
structure ET(w:oU)(B1 B g n c:Nat)(R:List (oV×List It)):Prop where
 row:w.ownsRow B1 278 1 (oG (g,0) n c) n (R.map (·.1))
 own:∀(k:Nat) (x:oV×List It),R[k]?=oM x->w.ownsRow B 280 2 x.1 x.2.length (x.2.flatMap Bg)
 apart:∀(i j:Nat) (x y:oV×List It),R[i]?=oM x->R[j]?=oM y->i≠j->∀k,x.1.ownBlock=oM k->y.1.ownBlock≠oM k
variable{w:oU}{B i:Nat}{R:List (oV×List It)}{x:It}
def ET.len{g n c:Nat}(h:ET w i B g n c R):R.length=n:=by have:=h.row.1;simpa using this
def ET.later{g n c:Nat}(h:ET w i B g n c R)(j:Below w w w'):ET w' i B g n c R:=
 ⟨AU h.row j,fun k x l=>AU (h.own k x l) j,h.apart⟩
def ET.AA{g n c:Nat}(h:ET w i B g n c R)(j:Am X w w')(p:¬X g)(o:∀(k:Nat) (x:oV×List It),R[k]?=oM x->∀b,x.1.ownBlock=oM b->¬X b):ET w' i B g n c R:=
 ⟨j.own h.row (fun k t=>by cases t;exact p),fun k x l=>j.own (h.own k x l) (o k x l),h.apart⟩
def ET.Aj{l g n c:Nat}(h:ET w l B g n c R):∃i,Ah w g 278 i:=by
 rcases h.row.2 with⟨j,_⟩|⟨p,cap,i,j,t,o,_⟩
 ·cases j
 ·cases j;exact⟨i,o⟩
def ET.put{w3:oU}{B1 g n c:Nat}(h:ET w B1 B g n c R)(hW:Below w w W){x:oV×List It}(hx:R[s]?=oM x){l:List It}
  (r1:w3.ownsRow B 280 2 nv l.length (l.flatMap Bg)) (r2:AI B [280] W w3) (r3:W.grownBy w3 x.1.ownBlock/\(nv.ownBlock=x.1.ownBlock\/nv.ownBlock=oM W.heap.size)):ET (w3.setCell (g,s) nv) B1 B g n c (R.set s (nv,l)):=by
 have p:=h.later hW;obtain⟨U,a9⟩:=sG.1 hx;have a8:=h.len;obtain⟨a7,a4⟩:=p.Aj;have a2:=r2.Aj a4 (.inr nY);have hc:Am (·=g) w3 (w3.setCell (g,s) nv):=Am.set (X:=(·=g)) (Am.refl _ w3) (p:=⟨g,s,oN⟩) (.inr rfl) _;have a5:=r2.own p.row (.inr nY);refine⟨?_,?_,?_⟩
 ·have:=Ge a5 s nX nv
  rw[List.map_set];exact this
 ·intro k y j
  by_cases T:k=s
  ·subst T
   rw[tG U]at j;cases j
   exact hc.own r1 (FB r1 a2 nY)
  ·rw[uG (fun e=>T e.symm)]at j
   have a6:=p.own k y j;have a3:w3.ownsRow B 280 2 y.1 y.2.length (y.2.flatMap Bg):=(Am.CM r3.1).own a6 (fun b i he=>h.apart s k x y hx j (fun e=>T e.symm) b he i);exact hc.own a3 (FB a3 a2 nY)
 ·intro a0 a1 a b ha i J k t C
  have key:∀(m:Nat) (y:oV×List It),R[m]?=oM y->m≠s->∀k,nv.ownBlock=oM k->y.1.ownBlock≠oM k:=fun m y j hm k o h2=>by
   rcases r3.2 with e|e
   ·rw[e]at o
    exact h.apart s m x y hx j (fun e=>hm e.symm) k o h2
   ·rw[e]at o
    cases o
    have:=(B6 (p.own m y j) _ h2).1;omega
  by_cases I:a0=s
  ·subst I
   rw[tG U]at ha;cases ha
   rw[uG J]at i;exact key a1 b i (fun e=>J e.symm) k t C
  ·rw[uG (fun e=>I e.symm)]at ha
   by_cases hj:a1=s
   ·subst hj
    rw[tG U]at i;cases i
    exact key a0 a ha I k C t
   ·rw[uG (fun e=>hj e.symm)]at i
    exact h.apart a0 a1 a b ha i J k t C
def AI.AA(h:AI B T w w'):Am (fun b=>B<=b) w w':=⟨h.os,h.tape,h.output,h.size,fun k i j=>h.block k i (.inl nX)⟩
def XL(mb fb z:Nat)(b:Nat):Prop:=b=mb\/b=fb\/z<=b
def Sx(mb fb z:Nat)(b:Nat):Prop:=b<z/\b≠mb/\b≠fb
def Sx.no{mb fb z b:Nat}(h:Sx mb fb z b):¬XL mb fb z b:=by
 obtain⟨l,i,j⟩:=h;rintro(e|e|e)
 ·exact i e
 ·exact j e
 ·omega
def hV(h:Option AH):oV:=match h with|none=>oI oN|some s=>s.v
def Dw(z:Option AH×Edge):List oV:=[oH oO (z.2.dst:Nat),oH oO (z.2.at_:Nat),hV z.1,oK z.2.self]
def Cu(w:oU)(m:Nat)(P:List AH)(h:Option AH)(S:Nat):Prop:=match h with|none=>S=0|some s=>AQ w s S/\s.n=m/\∀p∈P,s.wb≠p.wb
theorem Cu.later{P:List AH}{S:Nat}(k:Cu w m P h S)(i:Below w w w'):Cu w' m P h S:=by
 cases h with
 | none=>exact k
 | some s=>exact⟨k.1.later i,k.2⟩
theorem Cu.keeps{P:List AH}{S:Nat}(k:Cu w m P h S)(l:AI B T w w')(i:269 ∉ T)(j:264 ∉ T):Cu w' m P h S:=by
 cases h with
 | none=>exact k
 | some s=>exact⟨k.1.keeps l i j,k.2⟩
theorem Cu.push{P:List AH}{S:Nat}(k:Cu w m P h S)(j:Below w w w')(o:w.heap.size<=t.wb):Cu w' m (P++[t]) h S:=by
 cases h with
 | none=>exact k
 | some s=>
  refine⟨k.1.later j,k.2.1,fun p l=>?_⟩;rcases mA.1 l with i|i
  ·exact k.2.2 p i
  ·rw[mS.1 i]
   have:=k.1.words.lt;omega
structure Mk(w1 w3 wr:oU)(mb fb n c:Nat)(v lv rv tlv uv cv bv av ev:oV)(g:Gz)(base:List Nat)(P:List AH)(S:List Nat)(ED:List (Option AH×Edge))(FR:List (oV×List It)):Prop where
 below:Below w1 w1 wr
 vf:∃x0 x1 x2 x3,v=.agg #[x0,x1,x2,x3]
 lo:w1.heap.size<=mb/\w1.heap.size<=fb/\w1.heap.size<=w3.heap.size
 AA:Am (XL mb fb w3.heap.size) w3 wr
 Aj:Ah wr mb 217 (Et v lv rv tlv uv cv bv av ev (oG (fb,0) n c))
 FX:wr.ownsRow w3 3 1 bv base.length (base.map AY)
 all:wr.ownsRow w3 218 1 av P.length (P.map AH.v)
 AM:BD wr (g.nt+1) P S
 new:∀p∈P,w3.heap.size<=p.h/\w3.heap.size<=p.wb
 EK:wr.ownsRow w3 272 4 ev ED.length (ED.flatMap Dw)
 J0:∀z∈ED,Cu wr (g.nt+1) P z.1 z.2.set
 fin:ET wr w1.heap.size w3.heap.size fb n c FR
variable{mb:Nat}{base:List Nat}
section
variable {w1 w3 wr w2 W W2:oU} {mb fb n c:Nat} {v lv rv tlv uv cv bv av ev:oV} {g:Gz} {base:List Nat} {P:List AH} {S:List Nat} {ED:List (Option AH×Edge)} {FR:List (oV×List It)}
def Mk.later(h:Mk w1 w3 wr mb fb n c v lv rv tlv uv cv bv av ev g base P S ED FR)(i:Below wr wr w2):Mk w1 w3 w2 mb fb n c v lv rv tlv uv cv bv av ev g base P S ED FR:=
 ⟨h.below.trans (i.mono h.below.size),h.vf,h.lo,h.AA.next (Am.AJ i),h.Aj.below i h.Aj.lt,AU h.FX i,AU h.all i,h.AM.later i,h.new,AU h.EK i,fun z j=>(h.J0 z j).later i,h.fin.later i⟩
def ET.keeps{l g n c:Nat}(h:ET wr i B g n c R)(j:AI l T wr w2)(o:280 ∉ T)(p:278 ∉ T):ET w2 i B g n c R:=
 ⟨j.own h.row (.inr p),fun k x t=>j.own (h.own k x t) (.inr o),h.apart⟩
def Mk.Bz(h:Mk w1 w3 wr mb fb n c v lv rv tlv uv cv bv av ev g base P S ED FR)(j:Nat)(u:oV):Am (·=mb) wr (wr.setCell (mb,j) u)/\AI w1 [217] wr (wr.setCell (mb,j) u):=
 ⟨Am.set (X:=(·=mb)) (Am.refl _ wr) (p:=⟨mb,j,oN⟩) (.inr rfl) _,(AI.refl _ _ wr).EH h.Aj h.lo.1 oA j u⟩
def Mk.fQ(h:Mk w1 w3 wr mb fb n c v lv rv tlv uv cv bv av ev g base P S ED FR)(j:Below wr wr W)(hs:AQ W t 0)(hn:t.n=g.nt+1)(U:wr.heap.size<=t.h/\wr.heap.size<=t.wb)
  (r1:W2.ownsRow w3 218 1 (oG A (P.length+1) c2) (P.length+1) (P.map AH.v++[t.v])) (i:AI w3 [218] W W2) :
  Mk w1 w3 (W2.setCell (mb,10) (oG A (P.length+1) c2)) mb fb n c v lv rv tlv uv cv bv (oG A (P.length+1) c2) ev g base (P++[t]) (S++[0]) ED FR/\AI w1 [217,218] wr (W2.setCell (mb,10) (oG A (P.length+1) c2)) /\
  (∀(q:Option AH) (T:Nat),Cu wr (g.nt+1) P q T->Cu (W2.setCell (mb,10) (oG A (P.length+1) c2)) (g.nt+1) (P++[t]) q T):=by
 have p:=h.lo;have hz:=h.AA.size;have l:=h.later j;have J:Ah W2 mb 217 _:=i.Aj l.Aj (.inr nY);have o:AI w1 [217] W2 (W2.setCell (mb,10) (oG A (P.length+1) c2)):=(AI.refl _ _ W2).EH J p.1 oA 10 _;have hc:Am (·=mb) W2 (W2.setCell (mb,10) (oG A (P.length+1) c2)):=Am.set (X:=(·=mb)) (Am.refl _ W2) (p:=⟨mb,10,oN⟩) (.inr rfl) _;have R:∀(q:Option AH) (T:Nat),Cu wr (g.nt+1) P q T->Cu (W2.setCell (mb,10) (oG A (P.length+1) c2)) (g.nt+1) (P++[t]) q T:=fun q T hq=>((hq.push j U.2).keeps i nY nY).keeps o nY nY
 have a0:w1.heap.size<=W.heap.size:=l.below.size;refine⟨⟨(l.below.trans ((i.mono p.2.2 (T':=[218]) (fun _ h=>h)).below a0)).setCell (p:=⟨mb,10,oN⟩) p.1 _,h.vf,p,(l.AA.next ((i.AA).mono fun b j=>.inr (.inr j))).next (hc.mono fun b j=>.inl j),?_,o.own (i.own l.FX (.inr nY)) (.inr nY),?_,?_,?_,o.own (i.own l.EK (.inr nY)) (.inr nY),fun z hz=>R _ _ (h.J0 z hz),(l.fin.keeps i nY nY).keeps o nY nY⟩,?_,R⟩
 ·obtain⟨x0,x1,x2,x3,rfl⟩:=h.vf
  exact J.Ba 10 _
 ·rw[BB,Cb]
  exact o.own (by simpa using r1) (.inr nY)
 ·exact((h.AM.push j hs hn U.2).keeps i nY nY).keeps o nY nY
 ·intro a1 hp
  rcases mA.1 hp with I|I
  ·exact h.new a1 I
  ·rw[mS.1 I]
   omega
 ·exact((AI.AJ j).trans (i.mono p.2.2 (fun t C=>by simp at C ⊢;exact .inr C))).trans (o.mono (Ay _) (fun t C=>by simp at C ⊢;exact .inl C))
def Mk.dZ(h:Mk w1 w3 wr mb fb n c v lv rv tlv uv cv bv av ev g base P S ED FR)(o:Below wr wr W){x:Nat}(U:W2.ownsRow w3 3 1 (oG A (base.length+1) c2) (base.length+1) (base.map AY++[oH oO (x:Nat)]))(j:AI w3 [3] W W2) :
  Mk w1 w3 (W2.setCell (mb,9) (oG A (base.length+1) c2)) mb fb n c v lv rv tlv uv cv (oG A (base.length+1) c2) av ev g (base++[x]) P S ED FR/\AI w1 [217,3] wr (W2.setCell (mb,9) (oG A (base.length+1) c2)):=by
 have p:=h.lo;have i:=h.later o;have I:Ah W2 mb 217 _:=j.Aj i.Aj (.inr nY);have l:AI w1 [217] W2 (W2.setCell (mb,9) (oG A (base.length+1) c2)):=(AI.refl _ _ W2).EH I p.1 oA 9 _;have J:Am (·=mb) W2 (W2.setCell (mb,9) (oG A (base.length+1) c2)):=Am.set (X:=(·=mb)) (Am.refl _ W2) (p:=⟨mb,9,oN⟩) (.inr rfl) _;have R:w1.heap.size<=W.heap.size:=i.below.size;refine⟨⟨(i.below.trans ((j.mono p.2.2 (T':=[3]) (fun _ h=>h)).below R)).setCell (p:=⟨mb,9,oN⟩) p.1 _,h.vf,p,(i.AA.next ((j.AA).mono fun b o=>.inr (.inr o))).next (J.mono fun b o=>.inl o),?_,?_,l.own (j.own i.all (.inr nY)) (.inr nY),(i.AM.keeps j nY nY).keeps l nY nY,h.new,l.own (j.own i.EK (.inr nY)) (.inr nY),fun z T=>((i.J0 z T).keeps j nY nY).keeps l nY nY,(i.fin.keeps j nY nY).keeps l nY nY⟩,?_⟩
 ·obtain⟨x0,x1,x2,x3,rfl⟩:=h.vf
  exact I.Ba 9 _
 ·rw[BB,Cb]
  exact l.own U (.inr nY)
 ·exact((AI.AJ o).trans (j.mono p.2.2 (fun t C=>by simp at C ⊢;exact .inr C))).trans (l.mono (Ay _) (fun t C=>by simp at C ⊢;exact .inl C))
def Mk.LF(h:Mk w1 w3 wr mb fb n c v lv rv tlv uv cv bv av ev g base P S ED FR)(o:Below wr wr W){x:Option AH×Edge}(T:Cu wr (g.nt+1) P x.1 x.2.set)(r1:W2.ownsRow w3 272 4 (oG A (ED.length+1) c2) (ED.length+1) (ED.flatMap Dw++Dw x))(i:AI w3 [272] W W2) :
  Mk w1 w3 (W2.setCell (mb,11) (oG A (ED.length+1) c2)) mb fb n c v lv rv tlv uv cv bv av (oG A (ED.length+1) c2) g base P S (ED++[x]) FR/\AI w1 [217,272] wr (W2.setCell (mb,11) (oG A (ED.length+1) c2)):=by
 have p:=h.lo;have j:=h.later o;have I:Ah W2 mb 217 _:=i.Aj j.Aj (.inr nY);have l:AI w1 [217] W2 (W2.setCell (mb,11) (oG A (ED.length+1) c2)):=(AI.refl _ _ W2).EH I p.1 oA 11 _;have J:Am (·=mb) W2 (W2.setCell (mb,11) (oG A (ED.length+1) c2)):=Am.set (X:=(·=mb)) (Am.refl _ W2) (p:=⟨mb,11,oN⟩) (.inr rfl) _;have R:w1.heap.size<=W.heap.size:=j.below.size;refine⟨⟨(j.below.trans ((i.mono p.2.2 (T':=[272]) (fun _ h=>h)).below R)).setCell (p:=⟨mb,11,oN⟩) p.1 _,h.vf,p,(j.AA.next ((i.AA).mono fun b o=>.inr (.inr o))).next (J.mono fun b o=>.inl o),?_,l.own (i.own j.FX (.inr nY)) (.inr nY),l.own (i.own j.all (.inr nY)) (.inr nY),(j.AM.keeps i nY nY).keeps l nY nY,h.new,?_,?_,(j.fin.keeps i nY nY).keeps l nY nY⟩,?_⟩
 ·obtain⟨x0,x1,x2,x3,rfl⟩:=h.vf
  exact I.Ba 11 _
 ·rw[List.flatMap_append,Cb]
  exact l.own (by simpa using r1) (.inr nY)
 ·intro z U
  rcases mA.1 U with C|C
  ·exact((j.J0 z C).keeps i nY nY).keeps l nY nY
  ·rw[mS.1 C]
   exact((T.later o).keeps i nY nY).keeps l nY nY
 ·exact((AI.AJ o).trans (i.mono p.2.2 (fun a0 t=>by simp at t ⊢;exact .inr t))).trans (l.mono (Ay _) (fun a0 t=>by simp at t ⊢;exact .inl t))
def Mk.ended(h:Mk w1 w3 wr mb fb n c v lv rv tlv uv cv bv av ev g base P S ED FR)(l:Below wr wr W){y:oV×List It}(T:FR[s]?=oM y)(r1:W2.ownsRow w3 280 2 (oG A (y.2.length+1) c2) (y.2.length+1) (y.2.flatMap Bg++Bg x))(i:AI w3 [280] W W2)(r3:W.grownBy W2 y.1.ownBlock/\((Value.slice A (y.2.length+1) c2).ownBlock=y.1.ownBlock\/(Value.slice A (y.2.length+1) c2).ownBlock=oM W.heap.size)) :
  Mk w1 w3 (W2.setCell (fb,s) (oG A (y.2.length+1) c2)) mb fb n c v lv rv tlv uv cv bv av ev g base P S ED (FR.set s (oG A (y.2.length+1) c2,y.2++[x]))/\AI w1 [278,280] wr (W2.setCell (fb,s) (oG A (y.2.length+1) c2)):=by
 have p:=h.lo;have j:=h.later l;obtain⟨a1,J⟩:=j.fin.Aj;have C:Ah W2 fb 278 _:=i.Aj J (.inr nY);have o:AI w1 [278] W2 (W2.setCell (fb,s) (oG A (y.2.length+1) c2)):=(AI.refl _ _ W2).EH C p.2.1 oA s _;have I:Am (·=fb) W2 (W2.setCell (fb,s) (oG A (y.2.length+1) c2)):=Am.set (X:=(·=fb)) (Am.refl _ W2) (p:=⟨fb,s,oN⟩) (.inr rfl) _;have R:w1.heap.size<=W.heap.size:=j.below.size;refine⟨⟨(j.below.trans ((i.mono p.2.2 (T':=[280]) (fun _ h=>h)).below R)).setCell (p:=⟨fb,s,oN⟩) p.2.1 _,h.vf,p,(j.AA.next ((i.AA).mono fun b l=>.inr (.inr l))).next (I.mono fun b l=>.inr (.inl l)),o.Aj (i.Aj j.Aj (.inr nY)) (.inr nY),o.own (i.own j.FX (.inr nY)) (.inr nY),o.own (i.own j.all (.inr nY)) (.inr nY),(j.AM.keeps i nY nY).keeps o nY nY,h.new,o.own (i.own j.EK (.inr nY)) (.inr nY),fun z U=>((j.J0 z U).keeps i nY nY).keeps o nY nY,?_⟩,?_⟩
 ·exact h.fin.put l T (nv:=oG A (y.2.length+1) c2) (l:=y.2++[x]) (by rw[Cb,List.flatMap_append];simpa using r1) i r3
 ·exact((AI.AJ l).trans (i.mono p.2.2 (fun a0 t=>by simp at t ⊢;exact .inr t))).trans (o.mono (Ay _) (fun a0 t=>by simp at t ⊢;exact .inl t))
def Mk.Kb{J:List Nat}(h:Mk w1 w3 wr mb fb n c v lv rv tlv uv cv bv av ev g base P S ED FR)(l:Am (XP P) wr w2)(hf:BD w2 (g.nt+1) P J):Mk w1 w3 w2 mb fb n c v lv rv tlv uv cv bv av ev g base P J ED FR:=by
 have a0:=h.lo;have I:∀b,XP P b->w3.heap.size<=b/\∃j,Ah wr b 264 j:=fun b i=>by obtain⟨p,C,rfl⟩:=i;obtain⟨a1,T⟩:=h.AM.mem C;exact⟨(h.new p C).2,_,T.words⟩
 have no:∀{b:Nat} {t:TypeId} {j:Array oV},Ah wr b t j->t≠264->¬XP P b:=fun i ht e=>by obtain⟨_,j,R⟩:=I _ e;exact Ah.Bb i R ht rfl
 obtain⟨a2,U⟩:=h.fin.Aj;refine⟨h.below.trans (l.below h.below.size fun k o e=>by have:=(I k e).1;omega),h.vf,a0,h.AA.next (l.mono fun b i=>.inr (.inr (I b i).1)),l.Aj h.Aj (no h.Aj nY),l.own h.FX (E9 h.FX fun b j i=>no i nY),l.own h.all (E9 h.all fun b j i=>no i nY),hf,h.new,l.own h.EK (E9 h.EK fun b j i=>no i nY),fun z hz=>?_,h.fin.AA l (no U nY) (fun k x hx=>E9 (h.fin.own k x hx) fun b j i=>no i nY)⟩;have o:=h.J0 z hz;unfold Cu at o ⊢;split
 ·rename_i q
  rw[q]at o;exact o
 ·rename_i s q
  rw[q]at o;obtain⟨a,b,d⟩:=o;refine⟨a.AA l (no a.head nY) ?_,b,d⟩;rintro⟨p,C,e⟩;exact d p C e
end
def U2{l:List It}{j:Nat}(h:l.findIdx? (fun y=>x==y)=oM j):l[j]?=oM x/\∀i,i<j->l[i]?≠oM x:=by
 obtain⟨p,t,C⟩:=List.findIdx?_eq_some_iff_getElem.1 h;refine⟨?_,fun i J e=>?_⟩
 ·rw[eG p]
  have o:x=l[j]:=by simpa using t
  rw[<-o]
 ·have o:=C i J
  obtain⟨P,I⟩:=sG.1 e;rw[I]at o;simp at o
def bK{lv bv:oV}{E:List (List It)}(c4:oT w (mb,4)=oM lv)(c9:oT w (mb,9)=oM bv)(hA:FE w lv V L E)(hB:BF w bv base)(b1:base.length=L.length){r:Nat}(hr:Gz.Ka L base i x=oM r)(b4:r<=1000000) :
  () 219 #[(mb,0),i,CN x] w fun e w'=>e=oQ r/\Below w w w':=by
 obtain⟨⟨AL,cL,rfl,av,hc⟩,⟨az,b0⟩,h2,h3,h4⟩:=hA;unfold Gz.Ka at hr;obtain⟨a1,p,a0⟩:=Option.map_eq_some_iff.1 hr;have hi:i<L.length:=by
  rcases Nat.lt_or_ge i L.length with h|h
  ·exact h
  ·rw[dG,nG h]at p
   simp at p
 obtain⟨a2,hl⟩:∃a2,L[i]?=oM a2:=⟨_,eG hi⟩
 obtain⟨xv,a6⟩:∃x,V[i]?=oM x:=⟨_,eG nX⟩
 obtain⟨bi,a4⟩:∃x,base[i]?=oM x:=⟨_,eG nX⟩
 rw[dG,hl]at p;rw[dG,a4]at a0;simp only[Option.getD_some]at p a0;obtain⟨a5,ad⟩:=U2 p;have ay:=(sG.1 a5).1;obtain⟨b,off,rfl,hb,c0,c1⟩:=hc i xv a6;obtain⟨⟨Ai,ci,af,aa⟩,au,ar⟩:=h2 i xv a2 a6 hl;rw[af]at c0;obtain⟨⟨AB,cB,ao,a8⟩,_,_⟩:=hB;obtain⟨U,ob,al,an,a9⟩:=a8 i bi a4;subst ao;subst al;have aq:=World.block_lt_of_cell? w _ c4;have aj:=Hd a5;have ak:=Hd ad;have HC:=Hd aa;have HR:=Hd a0;have HK:Hid (∀y,Below w w y->oT y (mb,9)=oM (oG (U,ob) base.length cB)/\oT y (U,ob+i)=oM (oH oO (bi:Nat))):=Hd (fun y o=>⟨(o.cell (p:=⟨mb,9,oN⟩) aq).trans c9,(o.cell (p:=⟨U,ob+i,oN⟩) an).trans a9⟩)
 have aw:(i:Int)<(V.length:Int):=by omega
 have ax:(i:Int)<(base.length:Int):=by omega
 have b3:a1<1000001:=by omega
 obtain⟨j,l⟩:=x;have T:=Hd (Ah.new w 220 #[j,l]);have ai:=Hd (AG w (oP #[j,l] 220));unfold CN;clear hc h2 h3 hr p a5 ad aa ar a0 hl a6 a4 a8 af au a9 c9 c1;generalize V.length=n at *;generalize base.length=nb at *;go_enter func219,ntmps219
 go_wp2_with fail
 generalize hW:w.alloc (oP #[j,l] 220)=W at *;generalize ag:w.heap.size=q at *;have HQ:=Hd (And.intro hW ag);clear hW ag;go_loopw [18] (fun ii wr=>∃k:Nat,k<=a1/\ii=oH oO k/\Hid (Below W W wr)) (fun ii _=>a1+1-(intOf ii).toNat)
 case atStart=>exact⟨0,AX _,rfl,Hd (Below.refl _ _)⟩
 case round=>
  obtain⟨k,hk,rfl,I⟩:=hrel;obtain⟨⟨t,C⟩,o⟩:∃y,a2[k]?=oM y:=⟨_,eG nX⟩
  obtain⟨b2,ah,rfl,a7,d0,d1⟩:=HC k _ o;have J:Hid (Below q w wr):=Hd (ai.trans (I.mono (Nat.le_of_lt T.lt)));obtain⟨k9,kb⟩:=HK wr J;have a3:=Hd (T.below I T.lt);have x0:oT wr (q,0)=oM (oH oO j):=Ah.cell a3 0;have x1:oT wr (q,1)=oM (oH oO l):=Ah.cell a3 1;have xl:=Ah.lt a3;have ml:mb<wr.heap.size:=World.block_lt_of_cell? wr _ k9;have bl:U<wr.heap.size:=World.block_lt_of_cell? wr _ kb;have heq:=fun z=>S7 (j,l) (t,C) z
  have ab:=fun z op a b=>OR op a b (j,l) (t,C) z
  unfold CN at heq ab;simp only at d0 d1 heq ab;have d0:=(J.cell (p:=⟨b2,ah+k*2,oN⟩) a7).trans d0;have d1:=(J.cell (p:=⟨b2,ah+k*2+1,oN⟩) a7).trans d1;by_cases ae:k=a1
  ·have R:((j,l):It)=(t,C):=by rw[ae,aj.out]at o;exact Option.some.inj o
   have P:decide (((j,l):It)=(t,C))=true:=decide_eq_true R;rw[P]at heq;have b5:IntKind.i64.wrap ((bi:Int)+(k:Int))=(r:Int):=by have:=HR.out;rw[IntKind.wrap_i64];omega
   clear o P R ae;go_wp2_with fail
   go_ret;exact⟨rfl,by rw[HQ.2];exact J.trans ((AG _ _).mono (by have:=J.size;have:=T.lt;have:=I.size;omega))⟩
  ·have R:¬((j,l):It)=(t,C):=fun e=>ak k nX (by rw[e];exact o)
   have P:decide (((j,l):It)=(t,C))=false:=decide_eq_false R;rw[P]at heq;clear o P R;go_wp2_with fail
   go_roundw
   case rel=>exact⟨k+1,nX,oD,Hd (I.trans ((AG _ _).mono I.size))⟩
   case measure=>simp[intOf];omega
def Xe{t:List It}{p:It}(h:t.find? (fun x=>x.1==s)=oM p):DE t s=(p.2:Int):=by unfold DE;rw[h]
def WI{r:Nat}(h:Gz.Ka L base i x=oM r):i<L.length:=by
 unfold Gz.Ka at h;obtain⟨j,l,_⟩:=Option.map_eq_some_iff.1 h;rcases Nat.lt_or_ge i L.length with h|h
 ·exact h
 ·rw[dG,nG h]at l
  simp at l
def QQ{A:Nat->Prop}{lv bv rv:oV}{E:List (List It)}{g:Gz}(c4:oT w (mb,4)=oM lv)(c5:oT w (mb,5)=oM rv)(c9:oT w (mb,9)=oM bv)(C:FE w lv V L E)(hR:Dq A w rv (g.R.length+1) g.right)(hB:BF w bv base)(a7:base.length=L.length){r:Nat}
  (ah:x.1<=g.R.length) (aa:x.2<(g.right x.1).length) (au:x.2<=1000000) (hi:i<L.length) (t:Gz.Hc g L E base i x=oM r) (ag:r<=1000000) :
  () 186 #[(mb,0),i,CN x] w fun e w'=>e=oQ r/\Below w w w':=by
 unfold Gz.Hc at t;cases P:(E.getD i []).find? (fun ai=>ai.1==g.next x) with
 | none=>rw[P]at t;cases t
 | some ab=>
  rw[P]at t;simp only at t;have a6:=Xe P;have a2:Hid (∀y,Below w w y->() 61 #[lv,i,oH oO (g.next x)] y fun e w'=>e=oQ ab.2/\Below y y w'):=Hd (fun y j=>by have h:=Qd (C.later j) (i:=i) (s:=g.next x) (by rw[<-C.len.1];exact hi);rw[a6]at h;exact h)
  have a0:=World.block_lt_of_cell? w _ c4;have T:Hid (∀y,Below w w y->() 219 #[(mb,0),ab.2,CN (x.1,x.2+1)] y fun e w'=>e=oQ r/\Below y y w'):=Hd (fun y j=>bK ((j.cell (p:=⟨mb,4,oN⟩) a0).trans c4) ((j.cell (p:=⟨mb,9,oN⟩) a0).trans c9) (C.later j) (hB.later j) a7 t ag);obtain⟨bR,oR,cR,Ad,c2,rfl,ak,ad,a8⟩:=hR.at_ (k:=x.1) nX;obtain⟨s,hs⟩:∃s,(g.right x.1)[x.2]?=oM s:=⟨_,eG aa⟩
  have a9:g.next x=s:=by unfold Gz.next;rw[dG,hs];rfl
  rw[a9]at a2;obtain⟨bS,oS,rfl,_,al,ae⟩:=a8.at_ hs;have an:(x.1:Int)<((g.R.length+1:Nat):Int):=by omega
  have ao:(x.1:Int)<(g.R.length:Int)+1:=by omega
  have aq:(x.2:Int)<((g.right x.1).length:Int):=by omega
  have ar:IntKind.i64.wrap ((x.2:Int)+1)=(x.2:Int)+1:=by rw[IntKind.wrap_i64];omega
  obtain⟨l,p⟩:=x;simp only at *;generalize (g.right l).length=rl at *;generalize g.R.length=nR at *;have J:=Hd (Ah.new w 220 #[l,p]);have aj:=Hd (AG w (oP #[l,p] 220));obtain⟨AL,cL,af⟩:∃A c,lv=oG A V.length c:=by obtain⟨⟨A,c,h,_⟩,_⟩:=C;exact⟨A,c,h⟩
  subst af;unfold CN at T ⊢;simp only at T;clear P t a6 a9 hs C hR hB a8 a7 c9 ah aa hi;generalize V.length=n at *;go_enter func186,ntmps186
  go_upto_region 1 with fail
  have x0:=Ah.cell J 0;have x1:=Ah.cell J 1;have xl:=Ah.lt J;simp at x0 x1 xl;go_quiet (fail)
  go_upto_region 2 with fail
  have o:Hid (Below w w ((w.alloc (oP #[l,p] 220)).drewN nq)):=Hd ⟨rfl,rfl,rfl,by simp[World.drewN],fun k hk=>Below.heap_alloc _ _ _ hk⟩;have a3:Hid (Ah ((w.alloc (oP #[l,p] 220)).drewN nq) w.heap.size 220 #[l,p]):=Hd (J.drewN nq);clear x0 x1 xl c5 ad ae;generalize (w.alloc (oP #[l,p] 220)).drewN nq=W at *;have U:Hid (∀y,Below W W y->oT y (mb,4)=oM (oG AL n cL)/\oT y (w,0)=oM (oH oO l)/\oT y (w,1)=oM (oH oO p)):=Hd (fun y j=>by have hb:=a3.below j a3.lt;exact⟨((o.trans (j.mono o.size)).cell (p:=⟨mb,4,oN⟩) a0).trans c4,hb.cell 0,hb.cell 1⟩)
  have R:Hid (Below W W W.drew):=Hd ((Below.refl _ W).drew);clear c4
  go_region_held3 (fun v=>oT v (mb,4)=oM (oG AL n cL)/\oT v (w,0)=oM (oH oO l)/\oT v (w,1)=oM (oH oO p))
   (first|exact U _ R|exact U _ I|exact U _ a1)
   (first
    | (
     go_at_call 61;refine(a2 W.drew (o.trans (R.mono o.size))).mono ?_;rintro e w3 ⟨rfl,a4⟩
     have I:=Hd (R.trans a4);clear a4)
    | (
     go_at_call 219;refine(T _ (o.trans (I.mono o.size))).mono ?_;rintro e w4 ⟨rfl,a5⟩
     have a1:=Hd (I.trans (a5.mono I.size));clear a5))
  go_wp2_with fail
  go_ret;exact⟨rfl,o.trans (a1.mono o.size)⟩
