/- Productive nonterminals. What is reached. What the program says of a grammar whose. The document's 'has'. The document's 'fine'. The document's 'sort'. The document's 'from'. -/
import Derived.Test.YthaacmablcpdfaaGreatDoorYay
import Derived.Deep.LoopGhost
import Derived.WalkSmall
import Derived.Test.YthaacmablcpdfaaGreatDoorYao
import Derived.Test.YthaacmablcpdfaaGreatDoorYac
import Derived.Test.YthaacmablcpdfaaGreatDoorYn
set_option linter.unusedVariables false
set_option maxRecDepth 100000
set_option maxHeartbeats 16000000
namespace Go.Proofs.YthaacmablcpdfaaGreatDoor
open Go.RowKit
def Jm(g:Gz)(S:Nat)(r:List Nat):Bool:=r.all fun x=>!(g.AV x)||S.testBit x
def IF(g:Gz):List (Nat×List Nat)->Nat->Bool->Nat×Bool
 | [],S,m=>(S,m)
 | r::l,S,m=>if Jm g S r.2&&!S.testBit r.1 then IF g l (S|||2 ^ r.1) true else IF g l S m
def IE(g:Gz):Nat->Nat->Option Nat
 | 0,_=>none
 | f+1,S=>if (IF g g.R S false).2 then IE g f (IF g g.R S false).1 else some (IF g g.R S false).1
theorem VB{g:Gz}{S:Nat}{l:List Nat}{k x:Nat}(h:l[k]?=some x):Jm g S (l.drop k)=((!(g.AV x)||S.testBit x)&&Jm g S (l.drop (k+1))):=by rw[Er h];rfl
theorem VT{w:World}{v rv:Value}{g:Gz}(hg:GN w v g){s:AA}{S:Nat}(hs:AK w s S)(hn:s.n=g.top+1){left:Nat}{l:List Nat}(hl:Bz w rv l)(o:∀x∈l,x<=g.top)(a8:l.length<=8) :
  Calls Tryz.prog 85 #[v,.agg #[.int .i64 left,rv],s.v] w fun e w'=>e=.returned (.bool (Jm g S l))/\Below w.heap.size w w':=by
 have HN:Hid (∀y,Below w.heap.size w y->∀x:Nat,Calls Tryz.prog 40 #[v,.int .i64 x] y (Bb y (g.AV x))):=Hd (fun y hy x=>KJ (hg.later hy) x);have HH:Hid (∀y,Below w.heap.size w y->∀x:Nat,x<=g.top->Calls Tryz.prog 39 #[s.v,.int .i64 x] y fun e w'=>e=.returned (.bool (S.testBit x))/\w'=y):=Hd (fun y hy x o=>LK (hs.later hy) (by omega));obtain⟨⟨Ad,c,rfl,a6⟩,-,-⟩:=hl;obtain⟨n,a3⟩:∃n,l.length=n:=⟨_,rfl⟩
 have HC:=Hd a6;have HL:=Hd a3;have HX:=Hd o;rw[a3]at a8 ⊢;obtain⟨r,hr⟩:∃r,Jm g S l=r:=⟨_,rfl⟩
 rw[hr];have HR:=Hd hr;obtain⟨AT,cT,U,cN,AR,cR,rfl,-,-⟩:=hg.open_;have a0:=Hd ((Ay w (.cells #[.slice AT g.nt cT,.slice U g.nn cN,.slice AR g.R.length cR,.int .i64 g.s] 32)).alloc (by simp) (.cells #[.int .i64 left,.slice Ad n c] 65));have a4:=Hd ((Ah.new w 32 #[.slice AT g.nt cT,.slice U g.nn cN,.slice AR g.R.length cR,.int .i64 g.s]).alloc (.cells #[.int .i64 left,.slice Ad n c] 65));have aa:=Hd (Ah.newAt (w:=w.alloc (.cells #[.slice AT g.nt cT,.slice U g.nn cN,.slice AR g.R.length cR,.int .i64 g.s] 32)) (b:=w.heap.size+1) (t:=65) (cs:=#[.int .i64 left,.slice Ad n c]) (by simp))
 unfold AA.v at *;clear hg hs a6 a3 o hr hn;go_enter Tryz.func85,Tryz.ntmps85
 go_wp2_with fail
 generalize hW:(w.alloc (.cells #[.slice AT g.nt cT,.slice U g.nn cN,.slice AR g.R.length cR,.int .i64 g.s] 32)).alloc (.cells #[.int .i64 left,.slice Ad n c] 65)=W at *;clear hW;go_loopw [12] (fun ii wr=>∃k:Nat,k<=n/\ii=.int .i64 k/\Hid (Below W.heap.size W wr)/\Hid (Jm g S (l.drop k)=r)) (fun ii _=>n-(intOf ii).toNat)
 case atStart=>exact⟨0,AP _,rfl,Hd (Below.refl _ _),HR⟩
 case round=>
  obtain⟨k,hk,rfl,p,HF⟩:=hrel;rename World=>w1
  by_cases a9:k<n
  ·obtain⟨x,o⟩:∃x,l[k]?=some x:=⟨_,eG (by rw[HL.out];exact a9)⟩
   obtain⟨b,off,rfl,a2,d0⟩:=HC.out k x o;unfold AU at d0;have T:Below w.heap.size w w1:=a0.out.trans (p.out.mono a0.out.size);have d0:=(T.cell (p:=⟨b,off+k,none⟩) a2).trans d0;have a2:b<w1.heap.size:=A0 a2 T.size;have I:=a4.out.below p.out a4.out.lt;have x0:=Ah.cell I 0;have x1:=Ah.cell I 1;have x2:=Ah.cell I 2;have x3:=Ah.cell I 3;have xl:=I.lt;simp at x0 x1 x2 x3;have t:=HF.out;rw[VB o]at t;have j:=Hd t;have a5:=Hd (HX.out x (mG o));have C:=Hd T;have R:=Hd (HN.out w1 T x);clear I t o T HF
   cases a7:g.AV x with
   | false=>
    rw[a7]at R j;go_wp2_with (go_at_call 40;refine R.out.mono ?_;rintro e w2 ⟨rfl,i⟩;have J:=Hd i;clear i)
    go_roundw
    case rel=>exact⟨k+1,by omega,by go_num,Hd (p.out.trans (J.out.mono p.out.size)),Hd (by have h:=j.out;simpa using h)⟩
    case measure=>simp[intOf];omega
   | true=>
    rw[a7]at R j;cases a1:S.testBit x with
    | true=>
     rw[a1]at j;go_wp2_with (first
      | (go_at_call 40;refine R.out.mono ?_;rintro e w2 ⟨rfl,i⟩;have J:=Hd i;have P:=Hd (HH.out w2 (C.out.trans (i.mono C.out.size)) x a5.out);rw[a1]at P;clear i)
      | (go_at_call 39;refine P.out.mono ?_;rintro e w3 ⟨rfl,rfl⟩))
     go_roundw
     case rel=>exact⟨k+1,by omega,by go_num,Hd (p.out.trans (J.out.mono p.out.size)),Hd (by have h:=j.out;simpa using h)⟩
     case measure=>simp[intOf];omega
    | false=>
     rw[a1]at j;go_wp2_with (first
      | (go_at_call 40;refine R.out.mono ?_;rintro e w2 ⟨rfl,i⟩;have J:=Hd i;have P:=Hd (HH.out w2 (C.out.trans (i.mono C.out.size)) x a5.out);rw[a1]at P;clear i)
      | (go_at_call 39;refine P.out.mono ?_;rintro e w3 ⟨rfl,rfl⟩))
     go_ret;have h:=j.out;simp at h;exact⟨by rw[h];rfl,C.out.trans (J.out.mono C.out.size)⟩
  ·obtain rfl:n=k:=by omega
   have t:=HF.out;rw[List.drop_of_length_le (by rw[HL.out];exact AG _)]at t;have j:Hid (true=r):=Hd t;clear t HF;go_wp2;go_ret;exact⟨by rw[<-j.out];rfl,a0.out.trans (p.out.mono a0.out.size)⟩
theorem Zb{S i:Nat}(h:S.testBit i=true):S|||2 ^ i=S:=by
 apply Nat.eq_of_testBit_eq;intro j;rw[Nat.testBit_or,Nat.testBit_two_pow];by_cases e:i=j
 ·subst e;simp[h]
 ·simp[e]
def MO(w:World)(n S:Nat)(e:Ending)(w':World):Prop:=∃s:AA,e=.returned s.v/\AK w' s S/\s.n=n/\w.heap.size<=s.h/\w.heap.size<=s.wb/\Below w.heap.size w w'
theorem UU{w:World}{v:Value}{g:Gz}(hg:GN w v g){f P:Nat}(hP:IE g f 0=some P):Calls Tryz.prog 36 #[v] w (MO w (g.top+1) P):=by
 have ad:=hg.fit;have bj:=ad.nr;have bk:g.top<=240:=by unfold Gz.top;have:=ad.nt;have:=ad.nn;omega
 have HG:=Hd (fun(y:World) (l:Below w.heap.size w y)=>hg.later l);have b4:=Hd (fun(y:World) (l:Below w.heap.size w y)=>I3 (hg.later l));have HF:=Hd ad;have bf:=Hd hP;obtain⟨AT,cT,AN,cN,AR,cR,rfl,b9,-⟩:=hg.open_;have b3:=Hd b9;have ag:=Hd (Ay w (.cells #[.slice AT g.nt cT,.slice AN g.nn cN,.slice AR g.R.length cR,.int .i64 g.s] 32));have ao:=Hd (Ah.new w 32 #[.slice AT g.nt cT,.slice AN g.nn cN,.slice AR g.R.length cR,.int .i64 g.s]);clear hg hP b9 ad;unfold MO;go_enter Tryz.func36,Tryz.ntmps36
 go_wp2_with (first
  | (
    go_at_call 38;refine(b4.out _ ag.out).mono ?_;rintro e w1 ⟨rfl,av⟩
    have al:=Hd (ag.out.trans (av.mono ag.out.size));have ah:=Hd (ao.out.below av ao.out.lt);have aq:=Hd (JP (w:=w1) (n:=g.top+1) (by omega) (by omega));rw[show ((g.top+1:Nat):Int)=(g.top:Int)+1 by omega]at aq;clear av)
  | (
    go_at_call 84;refine aq.out.mono ?_;rintro e w2 ⟨rfl,az,aw⟩
    obtain⟨s,hs⟩:∃s:AA,(⟨w1.heap.size+1,w1.heap.size,g.top+1⟩:AA)=s:=⟨_,rfl⟩
    have bb:s.n=g.top+1:=by rw[<-hs]
    have af:w1.heap.size<=s.h:=by rw[<-hs];exact Nat.le_succ _
    have bc:w1.heap.size<=s.wb:=by rw[<-hs];exact AG _
    rw[hs]at az ⊢;have a4:=Hd (And.intro az (And.intro bb (And.intro af bc)));have b1:=Hd (al.out.trans (aw.mono al.out.size));have bd:=Hd (ah.out.below aw ah.out.lt);clear aw az hs bb af bc aq))
 have ak:Hid (w.heap.size<s.wb/\w.heap.size<s.h/\w.heap.size<w1.heap.size):=Hd (by have h1:=ah.out.lt;have h2:=a4.out;omega);have HY:Hid (∀y,Aj s.X w2 y->Below w.heap.size w y/\Ah y w.heap.size 32 #[.slice AT g.nt cT,.slice AN g.nn cN,.slice AR g.R.length cR,.int .i64 g.s]):=Hd (fun y l=>⟨b1.out.trans (l.below b1.out.size (fun j hj e=>by have e:j=s.wb:=e;have:=ak.out;omega)),l.An bd.out (fun e=>by have e:w.heap.size=s.wb:=e;have:=ak.out;omega)⟩)
 have bh:Hid (∀y,Below w.heap.size w y->∀k,k<g.R.length->∃b off b0 J R,AR=some ⟨b,off,none⟩/\b<y.heap.size/\y.cell? ⟨b,off+k*2,none⟩=some (.int .i64 (b0:Nat))/\y.cell? ⟨b,off+k*2+1,none⟩=some (.slice J (g.R.getD k (0,[])).2.length R)/\Bz y (.slice J (g.R.getD k (0,[])).2.length R) (g.R.getD k (0,[])).2/\b0=(g.R.getD k (0,[])).1/\b0<=g.top):=Hd (fun y l k hk=>by
  have hR:g.R[k]?=some (g.R.getD k (0,[])):=by rw[dG,eG hk];rfl
  obtain⟨b,off,rv,e,a6,c0,c1,hn⟩:=b3.out k _ hR;obtain⟨⟨J,R,rfl,-⟩,-,-⟩:=id hn;exact⟨b,off,_,J,R,e,A0 a6 l.size,(l.cell (p:=⟨b,off+k*2,none⟩) a6).trans c0,(l.cell (p:=⟨b,off+k*2+1,none⟩) a6).trans c1,hn.later l,rfl,(HF.out.left _ (mG hR)).2⟩)
 clear b4 ag ao al ah b3;unfold AA.v at *;go_loopg [4] f (fun k mv wr=>∃(S:Nat) (m:Bool),mv=.bool m/\Hid (AK wr s S)/\Hid (Aj s.X w2 wr)/\Hid ((m=true->IE g k S=some P)/\(m=false->S=P)))
 case atStart=>exact⟨0,true,rfl,Hd a4.out.1,Hd (Aj.refl _ _),Hd ⟨fun _=>bf.out,fun h=>by cases h⟩⟩
 case round=>
  obtain⟨S,m,rfl,HS,HC,HM⟩:=hrel;rename World=>w3
  cases m with
  | false=>
   go_wp2;go_ret;have h1:S=P:=by have h:=HM.out.2;simpa using h
   exact⟨s,rfl,by rw[<-h1];exact HS.out,a4.out.2.1,by have:=ak.out;omega,by have:=ak.out;omega,(HY.out _ HC.out).1⟩
  | true=>
   obtain⟨a5,o⟩:=HY.out w3 HC.out;have x2:=Ah.cell o 2;have xl:=o.lt;simp at x2;have U:IE g gk S=some P:=by have h:=HM.out.1;simpa using h
   obtain⟨k',ax⟩:∃k',gk=k'+1:=by
     cases gk with
     | zero=>unfold IE at U;cases U
     | succ k'=>exact⟨k',rfl⟩
   rw[ax]at U;unfold IE at U;obtain⟨Z,hZ⟩:∃Z,IF g g.R S false=Z:=⟨_,rfl⟩
   rw[hZ]at U;have HZ:=Hd hZ;have be:=Hd U;have HK:=Hd ax;clear a5 o U ax HM hZ;go_wp2_with fail
   go_loopw [15,4] (fun jj mv wr=>∃(j C:Nat) (m1:Bool),j<=g.R.length/\jj=.int .i64 j/\mv=.bool m1/\Hid (AK wr s C)/\Hid (Aj s.X w2 wr)/\Hid (IF g (g.R.drop j) C m1=Z)) (fun jj _ _=>g.R.length-(intOf jj).toNat)
   case atStart=>exact⟨0,S,false,AP _,rfl,rfl,HS,HC,HZ⟩
   case round=>
     obtain⟨j,C,m1,hj,rfl,rfl,a8,a7,ai⟩:=hrel;rename World=>w4
     by_cases a6:j<g.R.length
     ·obtain⟨a5,o⟩:=HY.out w4 a7.out
      obtain⟨b,off,T,J,R,rfl,bi,d0,d1,b8,b7,b6⟩:=bh.out w4 a5 j a6;have hR:g.R[j]?=some (g.R.getD j (0,[])):=by rw[dG,eG a6];rfl
      have p:=ai.out;rw[Er hR]at p;unfold IF at p;have ay:=mG hR;have af:=HF.out.short _ ay;have ba:=HF.out.right _ ay;rw[<-b7]at p;generalize (g.R.getD j (0,[])).2=rr at *;have x0:=Ah.cell o 0;have x1:=Ah.cell o 1;have x2:=Ah.cell o 2;have x3:=Ah.cell o 3;have xl:=o.lt;simp at x0 x1 x2 x3;have a9:=Ay w4 (.cells #[.int .i64 T,.slice J rr.length R] 65);have i:Below w.heap.size w (w4.alloc (.cells #[.int .i64 T,.slice J rr.length R] 65)):=a5.trans (a9.mono a5.size);have a3:=Hd (VT (HG.out _ i) (a8.out.later a9) a4.out.2.1 (left:=T) (b8.later a9) (fun x hx=>(ba x hx).2) af)
      unfold AA.v at a3;have a2:=Hd a9;have aj:=Hd (Ah.new w4 65 #[.int .i64 T,.slice J rr.length R]);have b2:=Hd b6;have t:=Hd p;clear a5 o b8 b7 p ay af ba a9 i hR ai b6;cases b5:Jm g C rr with
      | false=>
       rw[b5]at a3 t;go_wp2_with (go_at_call 85;refine a3.out.mono ?_;rintro e w5 ⟨rfl,i⟩;have a1:=Hd i;clear i)
       go_roundw
       case rel=>exact⟨j+1,C,m1,by omega,by go_num,rfl,Hd ((a8.out.later a2.out).later a1.out),Hd ((a7.out.next (Aj.AH a2.out)).next (Aj.AH a1.out)),Hd (by have h:=t.out;simpa using h)⟩
       case measure=>simp[intOf];omega
      | true=>
       rw[b5]at a3 t;cases aa:C.testBit T with
       | true=>
        rw[aa]at t;go_wp2_with (first
         | (
          go_at_call 85;refine a3.out.mono ?_;rintro e w5 ⟨rfl,i⟩
          have a1:=Hd i;have a0:=aj.out.below i aj.out.lt;have r0:=Ah.cell a0 0;have rl:=a0.lt;simp at r0;have I:=I9 ((a8.out.later a2.out).later i) (i:=T) (by have:=a4.out.2.1;have:=b2.out;omega);rw[aa]at I;unfold AA.v at I;have ar:=Hd I;clear i a0 I)
         | (go_at_call 86;refine ar.out.mono ?_;rintro e w6 ⟨rfl,ae,ab⟩;have au:=Hd ae;have an:=Hd ab;clear ae ab))
        go_roundw
        case rel=>exact⟨j+1,C,m1,by omega,by go_num,rfl,Hd (by have h:=au.out;rwa [Zb aa]at h),Hd (((a7.out.next (Aj.AH a2.out)).next (Aj.AH a1.out)).next an.out),Hd (by have h:=t.out;simpa using h)⟩
        case measure=>simp[intOf];omega
       | false=>
        rw[aa]at t;go_wp2_with (first
         | (
          go_at_call 85;refine a3.out.mono ?_;rintro e w5 ⟨rfl,i⟩
          have a1:=Hd i;have a0:=aj.out.below i aj.out.lt;have r0:=Ah.cell a0 0;have rl:=a0.lt;simp at r0;have I:=I9 ((a8.out.later a2.out).later i) (i:=T) (by have:=a4.out.2.1;have:=b2.out;omega);rw[aa]at I;unfold AA.v at I;have ar:=Hd I;clear i a0 I)
         | (go_at_call 86;refine ar.out.mono ?_;rintro e w6 ⟨rfl,ae,ab⟩;have au:=Hd ae;have an:=Hd ab;clear ae ab))
        go_roundw
        case rel=>exact⟨j+1,C|||2 ^ T,true,by omega,by go_num,rfl,au,Hd (((a7.out.next (Aj.AH a2.out)).next (Aj.AH a1.out)).next an.out),Hd (by have h:=t.out;simpa using h)⟩
        case measure=>simp[intOf];omega
     ·obtain rfl:j=g.R.length:=by omega
      have p:=ai.out;rw[List.drop_length]at p;unfold IF at p;have t:=Hd p;clear p ai;go_wp2
      go_roundg (gk-1)
      case measure=>have:=HK.out;omega
      case rel=>exact⟨C,m1,rfl,a8,a7,Hd (by
       have h:=be.out;rw[<-t.out]at h;rw[HK.out,Nat.add_sub_cancel];refine⟨fun hm=>?_,fun hm=>?_⟩
       ·rw[hm]at h;simpa using h
       ·rw[hm]at h;simpa using h)⟩
def IZ(p:Nat×List Nat)(x:Nat):Nat×List Nat:=if p.1.testBit x then p else(p.1|||2 ^ x,x::p.2)
def KQ(g:Gz)(i:List Nat)(p:Nat×List Nat):Nat×List Nat:=i.foldl (fun p k=>(g.R.getD k (0,[])).2.foldl IZ p) p
def Ht(g:Gz):Nat->Nat->List Nat->Option Nat
 | 0,_,_=>none
 | _+1,S,[]=>some S
 | f+1,S,left::i=>if 10000<i.length then none else Ht g f (KQ g (g.Cb left) (S,i)).1 (KQ g (g.Cb left) (S,i)).2
theorem AK.Cu{w:World}{s:AA}{S B n:Nat}{v:Value}{xs:List Value}(h:AK w s S)(i:w.ownsRow B 3 1 v n xs):v.ownBlock≠some s.wb:=DX i h.words (by decide)
structure Ez(W0 wr:World)(s:AA)(p:Nat×List Nat)(tv:Value):Prop where
 set:AK wr s p.1
 row:wr.ownsRow W0.heap.size 3 1 tv p.2.length (p.2.reverse.map AU)
 below:Below W0.heap.size W0 wr
 lo:W0.heap.size<=s.h/\W0.heap.size<=s.wb
theorem Ez.later{j wr w':World}{s:AA}{p:Nat×List Nat}{tv:Value}(h:Ez j wr s p tv)(i:Below wr.heap.size wr w'):Ez j w' s p tv:=
 ⟨h.set.later i,AS h.row i,h.below.trans (i.mono h.below.size),h.lo⟩
def Jn(v u:Value):Prop:=∀b,v.ownBlock=some b->u.ownBlock≠some b
theorem Ez.put{l wr w':World}{s:AA}{p:Nat×List Nat}{tv:Value}(h:Ez l wr s p tv){i:Nat}(C:AK w' s i)(o:Aj s.X wr w'):Ez l w' s (i,p.2) tv:=
 ⟨C,o.own h.row (fun b t e=>h.set.Cu h.row (by rw[t];exact congrArg some e)),h.below.trans (o.below h.below.size (fun j I e=>by have e:j=s.wb:=e;have:=h.lo;omega)),h.lo⟩
theorem Ez.push{i o j:World}{s:AA}{p:Nat×List Nat}{tv:Value}(h:Ez i o s p tv){x:Nat}{A:Option Addr}{c:Nat}(t:j.ownsRow i.heap.size 3 1 (.slice A (p.2.length+1) c) (p.2.length+1) (p.2.reverse.map AU++[AU x]))(l:AI i.heap.size [3] o j):Ez i j s (p.1,x::p.2) (.slice A (p.2.length+1) c):=by refine⟨h.set.keeps l (by decide) (by decide),?_,h.below.trans (l.below h.below.size),h.lo⟩;simpa using t
theorem Jn.grown{o:World}{B:Nat}{v u l:Value}{n:Nat}{xs:List Value}(h:Jn v u)(t:o.ownsRow B 3 1 u n xs)(p:l.ownBlock=v.ownBlock\/l.ownBlock=some o.heap.size):Jn l u:=fun b j e=>by
 rcases p with i|i
 ·exact h b (by rw[<-i];exact j) e
 ·rw[i]at j
  have:=(B9 t b e).1;have:=Option.some.inj j;omega
theorem Wi{w:World}{v:Value}{g:Gz}(hg:GN w v g){f P:Nat}(hP:Ht g f (2 ^ g.s) [g.s]=some P):Calls Tryz.prog 37 #[v] w (MO w (g.top+1) P):=by
 have a9:=hg.fit;have d9:=a9.nr;have dj:=a9.start.2;have dk:g.top<=240:=by unfold Gz.top;have:=a9.nt;have:=a9.nn;omega
 have HG:=Hd (fun(y:World) (hy:Below w.heap.size w y)=>hg.later hy);have cx:=Hd (fun(y:World) (hy:Below w.heap.size w y)=>I3 (hg.later hy));have HF:=Hd a9;have cm:=Hd hP;obtain⟨AT,cT,AN,cN,AR,cR,rfl,c7,-⟩:=hg.open_;have cu:=Hd c7;have a6:=Hd (Ay w (.cells #[.slice AT g.nt cT,.slice AN g.nn cN,.slice AR g.R.length cR,.int .i64 g.s] 32));have aj:=Hd (Ah.new w 32 #[.slice AT g.nt cT,.slice AN g.nn cN,.slice AR g.R.length cR,.int .i64 g.s]);have ag:Hid ((w.alloc (.cells #[.slice AT g.nt cT,.slice AN g.nn cN,.slice AR g.R.length cR,.int .i64 g.s] 32)).heap.size=w.heap.size+1):=Hd (by simp)
 clear hg hP c7 a9;unfold MO;go_enter Tryz.func37,Tryz.ntmps37
 go_wp2_with (first
  | (
    go_at_call 38;refine(cx.out _ a6.out).mono ?_;rintro e w1 ⟨rfl,b9⟩
    have ay:=Hd b9;have bm:=Hd (aj.out.below b9 aj.out.lt);have b1:=Hd (JP (w:=w1) (n:=g.top+1) (by omega) (by omega));rw[show ((g.top+1:Nat):Int)=(g.top:Int)+1 by omega]at b1;clear b9)
  | (
    go_at_call 84;refine b1.out.mono ?_;rintro e w2 ⟨rfl,aw,ba⟩
    obtain⟨s,hs⟩:∃s:AA,(⟨w1.heap.size+1,w1.heap.size,g.top+1⟩:AA)=s:=⟨_,rfl⟩
    have ca:s.n=g.top+1:=by rw[<-hs]
    have ax:w1.heap.size<=s.h:=by rw[<-hs];exact Nat.le_succ _
    have cb:w1.heap.size<=s.wb:=by rw[<-hs];exact AG _
    rw[hs]at aw ⊢;have b6:=Hd (And.intro aw (And.intro ca (And.intro ax cb)));have bk:=Hd (ay.out.trans (ba.mono ay.out.size));have b0:=Hd (bm.out.below ba bm.out.lt);have l:=b0.out;have x3:=Ah.cell l 3;have xl:=l.lt;simp at x3;have a4:=I9 aw (i:=g.s) (by omega);rw[Nat.zero_testBit,Nat.zero_or]at a4;unfold AA.v at a4;have cn:=Hd a4;unfold AA.v;clear ba aw hs ca ax cb b1 l a4)
  | (
    go_at_call 86;refine cn.out.mono ?_;rintro e w3 ⟨rfl,c9,bb⟩
    have cv:=Hd c9;have ah:Hid (w.heap.size+1<=s.wb/\w.heap.size+1<=s.h):=Hd (by have h1:=ay.out.size;have h2:=b6.out;have h3:=ag.out;omega);have az:=Hd (bk.out.trans (bb.below bk.out.size (fun j hj e=>by have e:j=s.wb:=e;have h1:=ah.out;have h2:=ag.out;omega)));have l:=b0.out.below (bb.below (B:=w.heap.size+1) (by have:=b0.out.lt;omega) (fun j hj e=>by have e:j=s.wb:=e;have h1:=ah.out;omega)) (by omega);have x3:=Ah.cell l 3;have xl:=l.lt;simp at x3;have da:=Hd l;clear c9 bb l))
 have bq:Hid (Ez (w.alloc (.cells #[.slice AT g.nt cT,.slice AN g.nn cN,.slice AR g.R.length cR,.int .i64 g.s] 32)) (w3.alloc (.cells #[.int .i64 g.s] 3)) s (2 ^ g.s,[g.s]) (.slice (some ⟨w3.heap.size,0,none⟩) 1 1)):=Hd ⟨cv.out.later (Ay _ _),Mz (XS:=[AU g.s]) (Ah.new w3 _ _) az.out.size rfl (by decide),az.out.trans ((Ay _ _).mono az.out.size),by have h1:=ah.out;have h2:=ag.out;omega⟩;generalize (w.alloc (.cells #[.slice AT g.nt cT,.slice AN g.nn cN,.slice AR g.R.length cR,.int .i64 g.s] 32))=T at *;generalize w3.alloc (.cells #[.int .i64 g.s] 3)=w4 at *
 generalize d3:w3.heap.size=b3 at bq ⊢;clear d3;go_loopg [4] f (fun k tv wr=>∃(S:Nat) (t:List Nat),Hid (Ez T wr s (S,t) tv)/\Hid (Ht g k S t=some P))
 case atStart=>exact⟨_,_,bq,cm⟩
 case round=>
  obtain⟨S,t,HR,HL⟩:=hrel;rename World=>R
  have J:Below w.heap.size w R:=a6.out.trans (HR.out.below.mono a6.out.size);have l:=aj.out.below HR.out.below (by have h2:=ag.out;omega);cases t with
  | nil=>
   obtain⟨A,c,rfl⟩:=Cv HR.out.row;have p:=HL.out;obtain⟨k',aa⟩:∃k',gk=k'+1:=by
     cases gk with
     | zero=>unfold Ht at p;cases p
     | succ k'=>exact⟨k',rfl⟩
   rw[aa]at p;unfold Ht at p;have p:S=P:=Option.some.inj p;have cw:=Hd p;have bl:=Hd J;clear p aa l J;simp only[List.length_nil]at *;go_wp2;go_ret;exact⟨s,rfl,by rw[<-cw.out];exact HR.out.set,b6.out.2.1,by have:=ah.out;omega,by have:=ah.out;omega,bl.out⟩
  | cons left t=>
   have p:=HL.out;obtain⟨k',aa⟩:∃k',gk=k'+1:=by
     cases gk with
     | zero=>unfold Ht at p;cases p
     | succ k'=>exact⟨k',rfl⟩
   rw[aa]at p;unfold Ht at p;have hn:t.length<=10000:=by
     by_cases h:10000<t.length
     ·rw[if_pos h]at p;cases p
     ·omega
   rw[if_neg (by omega)]at p;obtain⟨Z,hZ⟩:∃Z,KQ g (g.Cb left) (S,t)=Z:=⟨_,rfl⟩
   rw[hZ]at p;have cl:=Hd p;have HK:=Hd aa;have ad:=HR.out.row;have ad:R.ownsRow T.heap.size 3 1 u4 (t.length+1) (t.reverse.map AU++[AU left]):=by simpa using ad
   obtain⟨b,c,rfl,dc,de⟩:∃b c,u4=.slice (some ⟨b,0,none⟩) (t.length+1) c/\b<R.heap.size/\t.length+1<=c:=by
     rcases Bv ad with⟨_,h0⟩|⟨b,c,rfl,h1,h2,h3,_⟩
     ·omega
     ·exact⟨b,c,rfl,h2,h3⟩
   have df:(t.length:Int)<=(c:Int):=by omega
   have d4:R.cell? ⟨b,t.length,none⟩=some (.int .i64 left):=by rw[Bf ad t.length (by omega),List.getElem?_append_right (by simp)];simp[AU]
   have c6:=ownsRow_pop (by simp) ad;have br:Hid (Ez T R s (S,t) (.slice (some ⟨b,0,none⟩) t.length c)):=Hd ⟨HR.out.set,c6,HR.out.below,HR.out.lo⟩;have b2:=Hd (Qb (HG.out R J) left);have x0:=Ah.cell l 0;have x1:=Ah.cell l 1;have x2:=Ah.cell l 2;have x3:=Ah.cell l 3;have xl:=l.lt;simp at x0 x1 x2 x3;obtain⟨C,ar⟩:∃C,g.Cb left=C:=⟨_,rfl⟩
   have di:C.length<=300:=by rw[<-ar];exact AX (KC g left) d9
   have bz:∀k∈C,k<g.R.length:=fun k hk=>by rw[<-ar]at hk;unfold Gz.Cb at hk;exact List.mem_range.1 (List.mem_filter.1 hk).1
   rw[ar]at b2 hZ;have HZ:=Hd hZ;have ch:=Hd bz;have bl:=Hd J;clear p aa HL HR ad c6 l J hZ ar bz;simp only[List.length_cons]at *;go_wp2_with (
           go_at_call 83;refine b2.out.mono ?_;rintro e w6 ⟨dn,rfl,Ao,co,rfl,a5,bu⟩
           simp only[lM]at a5 ⊢;have a8:=Hd a5;have a3:=Hd (br.out.later bu);have a0:Hid (Jn (.slice (some ⟨b,0,none⟩) t.length c) (.slice Ao C.length co)):=Hd (fun b' d2 e=>by have h1:=(B9 a5 b' e).2;simp only[Value.ownBlock,Option.some.injEq]at d2;omega)
           clear a5 bu)
   clear br b2 x0 x1 x2 x3 xl d4;generalize bc:C.length=o at *;have bn:=Hd bc;clear bc;go_loopw [39,4] (fun jj tv wr=>∃(j:Nat) (a2:Nat×List Nat),j<=o/\jj=.int .i64 j/\Hid (Ez T wr s a2 tv)/\Hid (wr.ownsRow R.heap.size 3 1 (.slice Ao o co) o (C.map AU))/\Hid (Jn tv (.slice Ao o co))/\Hid (a2.2.length<=10000+8*j)/\Hid (KQ g (C.drop j) a2=Z)) (fun jj _ _=>o-(intOf jj).toNat)
   case atStart=>exact⟨0,(S,t),AP _,rfl,a3,a8,a0,Hd hn,HZ⟩
   case round=>
     clear a3 a8 a0;obtain⟨j,a2,hj,rfl,a3,a8,a0,bo,aq⟩:=hrel;rename World=>w7
     by_cases d6:j<o
     ·have J:Below w.heap.size w w7:=a6.out.trans (a3.out.below.mono a6.out.size)
      have l:=aj.out.below a3.out.below (by have h2:=ag.out;omega);obtain⟨k,hk⟩:∃k,C[j]?=some k:=⟨_,eG (by rw[bn.out];exact d6)⟩
      have bw:=ch.out k (mG hk);have hR:g.R[k]?=some (g.R.getD k (0,[])):=by rw[dG,eG bw];rfl
      obtain⟨b7,off,rv,e,bd,-,c1,c0⟩:=cu.out k _ hR;subst e;obtain⟨⟨Ar,cr,rfl,bv⟩,-,-⟩:=id c0;have bi:=mG hR;have ax:=HF.out.short _ bi;have c8:=HF.out.right _ bi;have ab:=aq.out;rw[Er hk]at ab;have ab:KQ g (C.drop (j+1)) ((g.R.getD k (0,[])).2.foldl IZ a2)=Z:=ab;generalize (g.R.getD k (0,[])).2=rr at *;obtain⟨rl,bh⟩:∃rl,rr.length=rl:=⟨_,rfl⟩
      rw[bh]at ax c1;obtain⟨p2,be⟩:∃p2,rr.foldl IZ a2=p2:=⟨_,rfl⟩
      rw[be]at ab;have a5:=a8.out;obtain⟨U,cz,dd⟩:∃U,Ao=some ⟨U,0,none⟩/\U<w7.heap.size:=by
       rcases Bv a5 with⟨_,h0⟩|⟨b',c',e,h1,h2,_⟩
       ·omega
       ·cases e;exact⟨b',rfl,h2⟩
      subst cz;have d0:w7.cell? ⟨U,j,none⟩=some (.int .i64 k):=by rw[Bf a5 j (by omega),pG,hk];rfl
      have c1:=(J.cell (p:=⟨b7,off+k*2+1,none⟩) bd).trans c1;have bd:b7<w7.heap.size:=A0 bd J.size;have dh:(k:Int)<(g.R.length:Int):=by omega
      have bc:(j:Int)<(o:Int):=by omega
      have x0:=Ah.cell l 0;have x1:=Ah.cell l 1;have x2:=Ah.cell l 2;have x3:=Ah.cell l 3;have xl:=l.lt;simp at x0 x1 x2 x3;have cg:=Hd bv;have bt:=Hd bh;have cs:=Hd c8;have ck:=Hd be;have b4:=Hd ab;clear J l hk bw hR bv bi c8 ab bh be a5 aq c0;go_wp2_with fail
      clear x0 x1 x2 x3 xl c1 d0;go_loopw [50,4] (fun ii tv wr=>∃(i:Nat) (q:Nat×List Nat),i<=rl/\ii=.int .i64 i/\Hid (Ez T wr s q tv)/\Hid (wr.ownsRow R.heap.size 3 1 (.slice (some ⟨U,0,none⟩) o co) o (C.map AU))/\Hid (Jn tv (.slice (some ⟨U,0,none⟩) o co))/\Hid (q.2.length<=10000+8*j+i)/\Hid ((rr.drop i).foldl IZ q=p2)) (fun ii _ _=>rl-(intOf ii).toNat)
      case atStart=>exact⟨0,a2,AP _,rfl,a3,a8,a0,bo,ck⟩
      case round=>
       clear a3 a8 a0 bo;obtain⟨i,q,hi,rfl,a1,ae,a0,bp,al⟩:=hrel;rename World=>w8
       by_cases d5:i<rl
       ·obtain⟨x,hx⟩:∃x,rr[i]?=some x:=⟨_,eG (by rw[bt.out];exact d5)⟩
        have J:Below w.heap.size w w8:=a6.out.trans (a1.out.below.mono a6.out.size);obtain⟨bx,ox,rfl,b8,d0⟩:=cg.out i x hx;unfold AU at d0;have d0:=(J.cell (p:=⟨bx,ox+i,none⟩) b8).trans d0;have b8:bx<w8.heap.size:=A0 b8 J.size;have dm:=cs.out x (mG hx);have bf:=al.out;rw[Er hx,List.foldl_cons]at bf;have a4:=I9 a1.out.set (i:=x) (by rw[b6.out.2.1];omega);unfold AA.v at a4;have ao:=Hd a4;have an:=Hd bf;have dg:(i:Int)<(rl:Int):=by omega
        have d8:=bp.out;clear J bf a4 hx al;by_cases ht:q.1.testBit x=true
        ·have av:IZ q x=q:=by unfold IZ;rw[if_pos ht]
         have d7:q.1|||2 ^ x=q.1:=by
          apply Nat.eq_of_testBit_eq;intro m;rw[Nat.testBit_or,Nat.testBit_two_pow];by_cases hm:x=m
          · subst hm;simp[ht]
          · simp[hm]
         rw[ht,d7]at ao;rw[av]at an;go_wp2_with (
               go_at_call 86;refine ao.out.mono ?_;rintro e I ⟨rfl,ai,a7⟩
               have af:Hid (Ez T I s q u4):=Hd (a1.out.put ai a7);have ak:Hid (I.ownsRow R.heap.size 3 1 (.slice (some ⟨U,0,none⟩) o co) o (C.map AU)):=Hd (a7.own ae.out (fun b hb e=>a1.out.set.Cu ae.out (by rw[hb];exact congrArg some e)));clear ai a7)
         go_roundw
         case rel=>exact⟨i+1,q,by omega,by go_num,af,ak,a0,Hd (by omega),an⟩
         case measure=>simp[intOf];omega
        ·have av:IZ q x=(q.1|||2 ^ x,x::q.2):=by unfold IZ;rw[if_neg ht]
         have cc:q.1.testBit x=false:=by simpa using ht
         rw[cc]at ao;rw[av]at an;obtain⟨At,ct,d1⟩:=Cv a1.out.row;subst d1;obtain⟨ql,au⟩:∃n,q.2.length=n:=⟨_,rfl⟩
         rw[au]at d8 a1 a0 ⊢;have b5:=Hd au;have bj:=a1.out.row;rw[au]at bj;have db:=Hd bj;clear au ht cc av bj;go_wp2_with (first
          | (
             go_at_call 86;refine ao.out.mono ?_;rintro e I ⟨rfl,ai,a7⟩
             have af:Hid (Ez T I s (q.1|||2 ^ x,q.2) (.slice At ql ct)):=Hd (a1.out.put ai a7);have cy:Hid (I.ownsRow T.heap.size 3 1 (.slice At ql ct) ql (q.2.reverse.map AU)):=Hd (by have h:I.ownsRow T.heap.size 3 1 (.slice At ql ct) q.2.length (q.2.reverse.map AU):=af.out.row;rw[b5.out]at h;exact h)
             have ak:Hid (I.ownsRow R.heap.size 3 1 (.slice (some ⟨U,0,none⟩) o co) o (C.map AU)):=Hd (a7.own ae.out (fun b hb e=>a1.out.set.Cu ae.out (by rw[hb];exact congrArg some e)));clear ai a7)
          | (
             at_builtin;refine DA Ip (.tmp 57) (.tmp 59) rfl rfl (base:=T.heap.size) (n:=ql) (m:=1) (N:=ql+1) (v:=.slice At ql ct) (src:=.slice (some ⟨I.heap.size,0,none⟩) 1 1) (xs:=q.2.reverse.map AU) (news:=[AU x]) rfl rfl (AS cy.out (Ay I (.cells #[.int .i64 x] 3))) (Bc.An (c:=1) (cs:=[AU x]) (Ah.new I 3 #[.int .i64 x]) rfl (by simp[Value.oneCell',AU])) rfl (by unfold maxLen;omega) (by omega) (by have:=af.out.below.size;simp;omega) ?_
             intro A c cd r1 r2 r3;have cq:Hid (Ez T cd s (q.1|||2 ^ x,x::q.2) (.slice A (ql+1) c)):=Hd (by have h1:Ez T (I.alloc (.cells #[.int .i64 x] 3)) s (q.1|||2 ^ x,q.2) (.slice At ql ct):=af.out.later (Ay I (.cells #[.int .i64 x] 3));have h2:=b5.out;subst h2;exact h1.push r1 r2)
             have cj:Hid (cd.ownsRow R.heap.size 3 1 (.slice (some ⟨U,0,none⟩) o co) o (C.map AU)):=Hd (by have h1:(I.alloc (.cells #[.int .i64 x] 3)).ownsRow R.heap.size 3 1 (.slice (some ⟨U,0,none⟩) o co) o (C.map AU):=AS ak.out (Ay I (.cells #[.int .i64 x] 3));exact(Aj.Cw r3.1).own h1 (fun b hb e=>a0.out b e hb))
             have cf:Hid (Jn (.slice A (ql+1) c) (.slice (some ⟨U,0,none⟩) o co)):=Hd (by have h1:(I.alloc (.cells #[.int .i64 x] 3)).ownsRow R.heap.size 3 1 (.slice (some ⟨U,0,none⟩) o co) o (C.map AU):=AS ak.out (Ay I (.cells #[.int .i64 x] 3));exact a0.out.grown h1 r3.2)
             clear r1 r2 r3))
         go_roundw
         case rel=>exact⟨i+1,(q.1|||2 ^ x,x::q.2),by omega,by go_num,cq,cj,cf,Hd (by simp only[List.length_cons];rw[b5.out];omega),an⟩
         case measure=>simp[intOf];omega
       ·obtain rfl:i=rl:=by omega
        have hz:=al.out;rw[List.drop_of_length_le (by rw[bt.out];exact AG _)]at hz;have hz:q=p2:=hz;have cp:=Hd hz;clear al hz;go_wp2;go_roundw
        case rel=>exact⟨j+1,q,by omega,by go_num,a1,ae,a0,Hd (by have:=bp.out;omega),by rw[cp.out];exact b4⟩
        case measure=>simp[intOf];omega
     ·obtain rfl:j=o:=by omega
      have hz:=aq.out;rw[List.drop_of_length_le (by rw[bn.out];exact AG _)]at hz;have hz:a2=Z:=hz;have b4:=Hd hz;clear aq hz;go_wp2
      go_roundg (gk-1)
      case measure=>have:=HK.out;omega
      case rel=>exact⟨a2.1,a2.2,a3,Hd (by rw[b4.out,HK.out];exact cl.out)⟩
def Live(g:Gz)(P Q:Nat):Prop:=∀x,1<=x->x<=g.top->P.testBit x=true/\(g.AV x=true->Q.testBit x=true)
theorem Wq{w:World}{v:Value}{g:Gz}(I:GN w v g){f f' P Q:Nat}(hQ:IE g f 0=some Q)(hP:Ht g f' (2 ^ g.s) [g.s]=some P)(hL:Live g P Q) :
  Calls Tryz.prog 10 #[v] w fun e w'=>e=.returned (.tuple #[.int .i64 0,.int .i64 0])/\Below w.heap.size w w':=by
 have ae:=I.fit;have b4:g.top<=240:=by unfold Gz.top;have:=ae.nt;have:=ae.nn;omega
 have af:=Hd (fun(y:World) (j:Below w.heap.size w y)=>L0 (I.later j));have ao:=Hd (fun(y:World) (j:Below w.heap.size w y)=>I3 (I.later j));have aw:=Hd (fun(y:World) (j:Below w.heap.size w y) (x:Nat)=>KJ (I.later j) x);have ag:=Hd (fun(y:World) (j:Below w.heap.size w y)=>UU (I.later j) hQ);have ai:=Hd (fun(y:World) (j:Below w.heap.size w y)=>Wi (I.later j) hP);have HL:=Hd hL;obtain⟨T,cT,J,cN,R,cR,rfl,-,-⟩:=I.open_;have a3:=Hd (Ay w (.cells #[.slice T g.nt cT,.slice J g.nn cN,.slice R g.R.length cR,.int .i64 g.s] 32))
 have a8:=Hd (Ah.new w 32 #[.slice T g.nt cT,.slice J g.nn cN,.slice R g.R.length cR,.int .i64 g.s]);have ax:Hid ((w.alloc (.cells #[.slice T g.nt cT,.slice J g.nn cN,.slice R g.R.length cR,.int .i64 g.s] 32)).heap.size=w.heap.size+1):=Hd (by simp);clear I hQ hP hL ae;go_enter Tryz.func10,Tryz.ntmps10
 go_upto_region 4 with(
      go_at_call 35;refine(af.out _ a3.out).mono ?_;rintro e l ⟨rfl,ab⟩
      have a0:=Hd (a3.out.trans (ab.mono a3.out.size));have a1:=Hd (a8.out.below ab a8.out.lt);have i:=a1.out;have x0:=Ah.cell i 0;have x1:=Ah.cell i 1;have x2:=Ah.cell i 2;have x3:=Ah.cell i 3;have xl:=i.lt;simp at x0 x1 x2 x3;clear ab i)
 have a6:Hid (∀y,Below l.heap.size l y->y.cell? ⟨w.heap.size,0,none⟩=some (.slice T g.nt cT)/\y.cell? ⟨w.heap.size,1,none⟩=some (.slice J g.nn cN)/\y.cell? ⟨w.heap.size,2,none⟩=some (.slice R g.R.length cR)/\y.cell? ⟨w.heap.size,3,none⟩=some (.int .i64 g.s)):=Hd (fun y j=>by have h:=a1.out.below j a1.out.lt;exact⟨h.cell 0,h.cell 1,h.cell 2,h.cell 3⟩)
 have HD:Hid (Below l.heap.size l l.drew):=Hd ((Below.refl _ l).drew);have ah:Hid (∀y,Below l.heap.size l y->Calls Tryz.prog 36 #[.agg #[.slice T g.nt cT,.slice J g.nn cN,.slice R g.R.length cR,.int .i64 g.s]] y (fun e w'=>∃h,e=.returned (.pointer (some ⟨h,0,none⟩))/\Below l.heap.size l w'/\Below y.heap.size y w'/\∀z,Below w'.heap.size w' z->∃s:AA,s.h=h/\AK z s Q/\s.n=g.top+1)):=Hd (fun y j=>by refine(ag.out y (a0.out.trans (j.mono a0.out.size))).mono ?_;rintro e w' ⟨s,rfl,o,p,-,-,C⟩;exact⟨s.h,rfl,j.trans (C.mono j.size),C,fun z t=>⟨s,rfl,o.later t,p⟩⟩)
 have aj:Hid (∀y,Below l.heap.size l y->Calls Tryz.prog 37 #[.agg #[.slice T g.nt cT,.slice J g.nn cN,.slice R g.R.length cR,.int .i64 g.s]] y (fun e w'=>∃h,e=.returned (.pointer (some ⟨h,0,none⟩))/\Below l.heap.size l w'/\Below y.heap.size y w'/\∀z,Below w'.heap.size w' z->∃s:AA,s.h=h/\AK z s P/\s.n=g.top+1)):=Hd (fun y j=>by refine(ai.out y (a0.out.trans (j.mono a0.out.size))).mono ?_;rintro e w' ⟨s,rfl,o,p,-,-,C⟩;exact⟨s.h,rfl,j.trans (C.mono j.size),C,fun z t=>⟨s,rfl,o.later t,p⟩⟩)
 go_region_held3 (fun(y:World)=>y.cell? ⟨w.heap.size,0,none⟩=some (.slice T g.nt cT)/\y.cell? ⟨w.heap.size,1,none⟩=some (.slice J g.nn cN)/\y.cell? ⟨w.heap.size,2,none⟩=some (.slice R g.R.length cR)/\y.cell? ⟨w.heap.size,3,none⟩=some (.int .i64 g.s))
  (first|exact a6.out _ HD.out|exact a6.out _ a7.out|exact a6.out _ a5.out)
  (first
   | (go_at_call 36;refine(ah.out _ (by first|exact a5.out|exact HD.out)).mono ?_;rintro e wp ⟨hp,rfl,hb,-,hs⟩;have a7:=Hd hb;have ak:=Hd hs;clear hb hs)
   | (go_at_call 37;refine(aj.out _ (by first|exact a7.out|exact HD.out)).mono ?_;rintro e wr ⟨hr,rfl,hb,ad,hs⟩;have a5:=Hd hb;have an:=Hd hs;have al:=Hd (fun(z:World) (t:Below wr.heap.size wr z)=>ak.out z (ad.trans (t.mono ad.size)));clear hb ad hs))
 have az:Hid (∀z,Below wr.heap.size wr z->∀x:Nat,x<=g.top->Calls Tryz.prog 39 #[.pointer (some ⟨hr,0,none⟩),.int .i64 x] z fun e w'=>e=.returned (.bool (P.testBit x))/\w'=z):=Hd (fun z t x hx=>by obtain⟨s,rfl,o,p⟩:=an.out z t;exact LK o (by omega))
 have ay:Hid (∀z,Below wr.heap.size wr z->∀x:Nat,x<=g.top->Calls Tryz.prog 39 #[.pointer (some ⟨hp,0,none⟩),.int .i64 x] z fun e w'=>e=.returned (.bool (Q.testBit x))/\w'=z):=Hd (fun z t x hx=>by obtain⟨s,rfl,o,p⟩:=al.out z t;exact LK o (by omega))
 have aa:=Hd (a0.out.trans (a5.out.mono a0.out.size));have a9:=Hd (a1.out.below a5.out a1.out.lt);have b1:=Hd (ao.out wr aa.out);have i:=a9.out;have y0:=Ah.cell i 0;have y1:=Ah.cell i 1;have y2:=Ah.cell i 2;have y3:=Ah.cell i 3;have yl:=i.lt;simp at y0 y1 y2 y3;clear i x0 x1 x2 x3 xl an al ak a7 ah aj a6 HD ao af ag ai a3 a0 a8 a1 ax;go_wp2_with (go_at_call 38;refine b1.out.mono ?_;rintro e w4 ⟨rfl,ar⟩;have av:=Hd ar;clear ar)
 generalize au:g.top=tp at *;have b0:=Hd au;clear au;go_loopw [20] (fun ii y=>∃k:Nat,k<=tp/\ii=.int .i64 k/\Hid (Below wr.heap.size wr y)) (fun ii _=>tp-(intOf ii).toNat)
 case atStart=>exact⟨0,AP _,rfl,av⟩
 case round=>
  obtain⟨k,hk,rfl,U⟩:=hrel;rename World=>w5
  have aq:=Hd (aa.out.trans (U.out.mono aa.out.size));by_cases b2:k<tp
  ·have hl:=HL.out (k+1) (by omega) (by rw[b0.out];omega)
   have b3:(k:Int)<(tp:Int):=by omega
   have i:=a9.out.below U.out a9.out.lt;have z0:=Ah.cell i 0;have z1:=Ah.cell i 1;have z2:=Ah.cell i 2;have z3:=Ah.cell i 3;have zl:=i.lt;simp at z0 z1 z2 z3;have o:=az.out w5 U.out (k+1) (by omega);rw[hl.1]at o;have p:=aw.out w5 aq.out (k+1);have C:g.AV (k+1)=true->∀z,Below wr.heap.size wr z->Calls Tryz.prog 39 #[.pointer (some ⟨hp,0,none⟩),.int .i64 (k+1:Nat)] z fun e w'=>e=.returned (.bool true)/\w'=z:=fun hn z t=>by have h:=ay.out z t (k+1) (by omega);rw[hl.2 hn]at h;exact h
   rw[show ((k+1:Nat):Int)=(k:Int)+1 by omega]at o p C;have H1:=Hd o;cases hn:g.AV (k+1) with
   | false=>
    rw[hn]at p;have H2:=Hd p;clear o p C hl i hn;go_wp2_with (first
     | (go_at_call 39;with_reducible refine H1.out.mono ?_;rintro e w6 ⟨rfl,rfl⟩)
     | (go_at_call 40;refine H2.out.mono ?_;rintro e w7 ⟨rfl,a2⟩;have a4:=Hd (U.out.trans (a2.mono U.out.size));clear a2))
    go_roundw
    case rel=>exact⟨k+1,by omega,by go_num,a4⟩
    case measure=>simp[intOf];omega
   | true=>
    rw[hn]at p;have H2:=Hd p;have H3:=Hd (C hn);clear o p C hl i hn;go_wp2_with (first
     | (go_at_call 39;with_reducible refine H1.out.mono ?_;rintro e w6 ⟨rfl,rfl⟩)
     | (go_at_call 40;refine H2.out.mono ?_;rintro e w7 ⟨rfl,a2⟩;have a4:=Hd (U.out.trans (a2.mono U.out.size));clear a2)
     | (go_at_call 39;with_reducible refine(H3.out _ a4.out).mono ?_;rintro e w8 ⟨rfl,rfl⟩))
    go_roundw
    case rel=>exact⟨k+1,by omega,by go_num,a4⟩
    case measure=>simp[intOf];omega
  ·obtain rfl:k=tp:=by omega
   go_wp2;refine bodyPost_ret (v:=.tuple #[.int .i64 0,.int .i64 0]) (by simp[results,Tryz.f10,go_sem]) rfl ?_;exact⟨rfl,aq.out⟩
def EM(w:World)(v:Value)(l:List Nat):Prop:=∃A c,v=.slice A l.length c/\∀k x,l[k]?=some x->∃b off,A=some ⟨b,off,none⟩/\b<w.heap.size/\w.cell? ⟨b,off+k,none⟩=some (AU x)
theorem EM.row{w:World}{B n:Nat}{v:Value}{l:List Nat}(h:w.ownsRow B 3 1 v n (l.map AU))(o:l.length=n):EM w v l:=by
 subst o;rcases Bv h with⟨rfl,h0⟩|⟨b,c,rfl,p,j,_⟩
 ·exact⟨none,0,by rw[h0],fun k x i=>by have:=(sG.1 i).1;omega⟩
 ·refine⟨_,c,rfl,fun k x i=>⟨b,0,rfl,j,?_⟩⟩
  have t:=(sG.1 i).1;rw[Nat.zero_add,Bf h k (by omega),pG,i];rfl
theorem JJ{w:World}{v:Value}{l:List Nat}(h:EM w v l)(hl:l.length<=100000)(x:Nat):Calls Tryz.prog 45 #[v,.int .i64 x] w fun e w'=>e=.returned (.bool (l.contains x))/\w'=w:=by
 obtain⟨A,c,rfl,R⟩:=h;have U:=Hd R;obtain⟨n,p⟩:∃n,l.length=n:=⟨_,rfl⟩
 obtain⟨r,t⟩:∃r,l.contains x=r:=⟨_,rfl⟩
 rw[p]at hl ⊢;rw[t];have J:=Hd p;have P:=Hd t;clear R p t;go_enter Tryz.func45,Tryz.ntmps45
 go_wp2_with fail
 go_loopw [5] (fun ii y=>∃k:Nat,k<=n/\ii=.int .i64 k/\Hid ((l.drop k).contains x=r)/\y=w) (fun ii _=>n-(intOf ii).toNat)
 case atStart=>exact⟨0,AP _,rfl,Hd (by rw[List.drop_zero];exact P.out),rfl⟩
 case round=>
  obtain⟨k,hk,rfl,j,rfl⟩:=hrel;by_cases a1:k<n
  ·obtain⟨z,I⟩:∃z,l[k]?=some z:=⟨_,eG (by rw[J.out];exact a1)⟩
   obtain⟨b,off,rfl,a2,d0⟩:=U.out k z I;unfold AU at d0;have i:=j.out;rw[Er I,List.contains_cons]at i;have o:=Hd i;have a3:(k:Int)<(n:Int):=by omega
   clear I i;by_cases T:z=x
   ·subst T
    have C:r=true:=by have h:=o.out;simp at h;exact h
    subst C;clear o j P;go_wp2_with fail
    go_ret;exact⟨rfl,rfl⟩
   ·have a4:((z:Int)==(x:Int))=false:=bN.2 (by omega)
    have a5:¬((z:Int)=(x:Int)):=by omega
    have a0:Hid ((l.drop (k+1)).contains x=r):=Hd (by have h:=o.out;have e:(x==z)=false:=bN.2 (fun e=>T e.symm);rw[e,Bool.false_or]at h;exact h)
    clear o j;go_wp2_with fail
    go_roundw
    case rel=>exact⟨k+1,by omega,by go_num,a0,trivial⟩
    case measure=>simp[intOf];omega
  ·obtain rfl:k=n:=by omega
   have i:=j.out;rw[List.drop_of_length_le (by rw[J.out];exact AG _)]at i;have C:r=false:=by simpa using i.symm
   subst C;clear j i;go_wp2;go_ret;exact⟨rfl,rfl⟩
theorem EM.later{w w':World}{v:Value}{l:List Nat}(h:EM w v l)(i:Below w.heap.size w w'):EM w' v l:=by obtain⟨A,c,rfl,p⟩:=h;refine⟨A,c,rfl,fun k x t=>?_⟩;obtain⟨b,off,o,j,h⟩:=p k x t;exact⟨b,off,o,A0 j i.size,(i.cell (p:=⟨b,off+k,none⟩) j).trans h⟩
theorem OW{w:World}{v:Value}{g:Gz}(h:GN w v g):Calls Tryz.prog 44 #[v] w fun e w'=>e=.returned (.int .i64 g.top)/\Below w.heap.size w w':=by obtain⟨l,i,o,rfl⟩:=h.EF;refine(Pp i).mono ?_;rintro e w' ⟨rfl,j⟩;exact⟨rfl,j⟩
theorem S7{w:World}{v:Value}{g:Gz}(h:GN w v g)(x:Nat):Calls Tryz.prog 46 #[v,.int .i64 x] w (Bb w (g.AV x)):=by
 obtain⟨i,j,l,rfl⟩:=h.EF;have e:i.AV (x:Int)=(Gz.EP i).AV x:=by unfold Gm.AV Gz.AV Gz.top Gz.EP;rw[Bool.eq_iff_iff];simp;omega
 rw[<-e];exact QT j x
def JR(g:Gz)(l r:List Nat):Bool:=r.all fun x=>!(g.AV x)||l.contains x
theorem Xe{g:Gz}{l r:List Nat}{k x:Nat}(h:r[k]?=some x):JR g l (r.drop k)=((!(g.AV x)||l.contains x)&&JR g l (r.drop (k+1))):=by rw[Er h];rfl
theorem Vk{w:World}{v rv lv:Value}{g:Gz}(hg:GN w v g){l:List Nat}(hs:EM w lv l)(ag:l.length<=100000){left:Nat}{r:List Nat}(hl:Bz w rv r)(ai:r.length<=8) :
  Calls Tryz.prog 95 #[v,.agg #[.int .i64 left,rv],lv] w fun e w'=>e=.returned (.bool (JR g l r))/\Below w.heap.size w w':=by
 have HN:Hid (∀y,Below w.heap.size w y->∀x:Nat,Calls Tryz.prog 46 #[v,.int .i64 x] y (Bb y (g.AV x))):=Hd (fun y j x=>S7 (hg.later j) x);have HH:Hid (∀y,Below w.heap.size w y->∀x:Nat,Calls Tryz.prog 45 #[lv,.int .i64 x] y fun e w'=>e=.returned (.bool (l.contains x))/\w'=y):=Hd (fun y j x=>JJ (hs.later j) ag x);obtain⟨⟨Ad,c,rfl,af⟩,-,-⟩:=hl;obtain⟨Al,cl,rfl,-⟩:=hs;obtain⟨n,a9⟩:∃n,r.length=n:=⟨_,rfl⟩
 have HC:=Hd af;have HL:=Hd a9;rw[a9]at ai ⊢;obtain⟨z,hz⟩:∃z,JR g l r=z:=⟨_,rfl⟩
 rw[hz];have HR:=Hd hz;obtain⟨AT,cT,T,cN,U,cR,rfl,-,-⟩:=hg.open_;have J:=Hd ((Ay w (.cells #[.slice AT g.nt cT,.slice T g.nn cN,.slice U g.R.length cR,.int .i64 g.s] 32)).alloc (by simp) (.cells #[.int .i64 left,.slice Ad n c] 65));have a6:=Hd ((Ah.new w 32 #[.slice AT g.nt cT,.slice T g.nn cN,.slice U g.R.length cR,.int .i64 g.s]).alloc (.cells #[.int .i64 left,.slice Ad n c] 65));have a7:=Hd (Ah.newAt (w:=w.alloc (.cells #[.slice AT g.nt cT,.slice T g.nn cN,.slice U g.R.length cR,.int .i64 g.s] 32)) (b:=w.heap.size+1) (t:=65) (cs:=#[.int .i64 left,.slice Ad n c]) (by simp))
 clear hg af a9 hz;generalize l.length=ln at *;go_enter Tryz.func95,Tryz.ntmps95
 go_wp2_with fail
 generalize hW:(w.alloc (.cells #[.slice AT g.nt cT,.slice T g.nn cN,.slice U g.R.length cR,.int .i64 g.s] 32)).alloc (.cells #[.int .i64 left,.slice Ad n c] 65)=W at *;generalize hB:w.heap.size+1=B at *;clear hW hB;go_loopw [7] (fun ii wr=>∃k:Nat,k<=n/\ii=.int .i64 k/\Hid (Below W.heap.size W wr)/\Hid (JR g l (r.drop k)=z)) (fun ii _=>n-(intOf ii).toNat)
 case atStart=>exact⟨0,AP _,rfl,Hd (Below.refl _ _),HR⟩
 case round=>
  obtain⟨k,hk,rfl,C,HF⟩:=hrel;rename World=>o
  have aa:=a7.out.below C.out a7.out.lt;have q1:=Ah.cell aa 1;have ql:=aa.lt;simp at q1;clear aa;by_cases ah:k<n
  ·obtain⟨x,hx⟩:∃x,r[k]?=some x:=⟨_,eG (by rw[HL.out];exact ah)⟩
   obtain⟨b,off,rfl,a0,d0⟩:=HC.out k x hx;unfold AU at d0;have a5:Below w.heap.size w o:=J.out.trans (C.out.mono J.out.size);have d0:=(a5.cell (p:=⟨b,off+k,none⟩) a0).trans d0;have a0:b<o.heap.size:=A0 a0 a5.size;have R:=a6.out.below C.out a6.out.lt;have x0:=Ah.cell R 0;have x1:=Ah.cell R 1;have x2:=Ah.cell R 2;have x3:=Ah.cell R 3;have xl:=R.lt;simp at x0 x1 x2 x3;have t:=HF.out;rw[Xe hx]at t;have P:=Hd t;have a4:=Hd a5;have aj:(k:Int)<(n:Int):=by omega
   clear R t hx a5 HF a6 a7;have p:Hid (∀y,Below o.heap.size o y->(y.cell? ⟨w.heap.size,0,none⟩=some (.slice AT g.nt cT)/\y.cell? ⟨w.heap.size,1,none⟩=some (.slice T g.nn cN)/\y.cell? ⟨w.heap.size,2,none⟩=some (.slice U g.R.length cR)/\y.cell? ⟨w.heap.size,3,none⟩=some (.int .i64 g.s))/\y.cell? ⟨B,1,none⟩=some (.slice (some ⟨b,off,none⟩) n c)/\y.cell? ⟨b,off+k,none⟩=some (.int .i64 x)):=Hd (fun y j=>⟨⟨(j.cell xl).trans x0,(j.cell xl).trans x1,(j.cell xl).trans x2,(j.cell xl).trans x3⟩,(j.cell (p:=⟨B,1,none⟩) ql).trans q1,(j.cell (p:=⟨b,off+k,none⟩) a0).trans d0⟩)
   have ad:=Hd (HN.out · · x);have ab:=Hd (HH.out · · x);generalize g.AV x=a1 at *;generalize l.contains x=a2 at *;obtain⟨I,ae,a8⟩:∃I:World->Prop,(∀w',I w'->Below o.heap.size o w')/\(∀w',Below o.heap.size o w'->I w'):=⟨_,fun _ h=>h,fun _ h=>h⟩
   have hI:I o.drew:=a8 _ (FW (Below.refl _ _));have ak:Nonempty (Wd I):=⟨⟨_,hI⟩⟩
   have i:=Hd (fun x:Wd I=>ae _ x.ok);have XJ:=Hd a8;clear ae a8;have g0:=fun y:Wd I=>(p.out _ (i.out y)).1.1
   have g1:=fun y:Wd I=>(p.out _ (i.out y)).1.2.1
   have g2:=fun y:Wd I=>(p.out _ (i.out y)).1.2.2.1
   have g3:=fun y:Wd I=>(p.out _ (i.out y)).1.2.2.2
   have g4:=fun y:Wd I=>(p.out _ (i.out y)).2.1
   have g5:=fun y:Wd I=>(p.out _ (i.out y)).2.2
   have CT:=Hd (fun y:Wd I=>Fh (I:=I) (v:=.bool a1) ((ad.out y.w (a4.out.trans ((i.out y).mono a4.out.size))).mono fun e w' hh=>⟨hh.1,XJ.out _ ((i.out y).trans (hh.2.mono (i.out y).size))⟩));have CN:=Hd (fun y:Wd I=>Fh (I:=I) (v:=.bool a2) ((ab.out y.w (a4.out.trans ((i.out y).mono a4.out.size))).mono fun e w' hh=>⟨hh.1,by rw[hh.2];exact y.ok⟩));clear p x0 x1 x2 x3 xl d0 a0 ad ab;cases a1<;>cases a2
   all_goals
    go_wp2_with fail
    clear q1 ql;refine Iy I (by kernel_rfl) (by kernel_rfl) hI ?_;repeat (go_big_quiet_step (first|(go_at_call 46;exact CT.out _)|(go_at_call 45;exact CN.out _)))
    refine wpQuiet_nil ?_;rintro _ ⟨x,rfl⟩;have a3:=Hd (C.out.trans ((i.out x).mono C.out.size));clear g0 g1 g2 g3 g4 g5;go_wp2
   ·go_roundw
    case rel=>exact⟨k+1,by omega,by go_num,a3,P⟩
    case measure=>simp[intOf];omega
   ·go_roundw
    case rel=>exact⟨k+1,by omega,by go_num,a3,P⟩
    case measure=>simp[intOf];omega
   ·go_ret
    exact⟨by rw[<-P.out];rfl,J.out.trans (a3.out.mono J.out.size)⟩
   ·go_roundw
    case rel=>exact⟨k+1,by omega,by go_num,a3,P⟩
    case measure=>simp[intOf];omega
  ·obtain rfl:n=k:=by omega
   have t:=HF.out;rw[List.drop_of_length_le (by rw[HL.out];exact AG _)]at t;have P:Hid (true=z):=Hd t;clear t HF;go_wp2;go_ret;exact⟨by rw[<-P.out];rfl,J.out.trans (C.out.mono J.out.size)⟩
structure Dk(W0 wr:World)(tv:Value)(l:List Nat):Prop where
 row:wr.ownsRow W0.heap.size 3 1 tv l.length (l.map AU)
 below:Below W0.heap.size W0 wr
theorem Dk.later{i wr w':World}{tv:Value}{l:List Nat}(h:Dk i wr tv l)(j:Below wr.heap.size wr w'):Dk i w' tv l:=⟨AS h.row j,h.below.trans (j.mono h.below.size)⟩
theorem Dk.nil(i:World):Dk i i (.slice none 0 0) []:=⟨⟨rfl,.inl ⟨rfl,rfl⟩⟩,Below.refl _ _⟩
theorem Dk.read{i wr:World}{tv:Value}{l:List Nat}(h:Dk i wr tv l):EM wr tv l:=EM.row h.row rfl
theorem Dk.push{i o j:World}{l:List Nat}{x:Nat}{A:Option Addr}{c:Nat}(h:Below i.heap.size i o)(p:j.ownsRow i.heap.size 3 1 (.slice A (l.length+1) c) (l.length+1) (l.map AU++[AU x]))(t:AI i.heap.size [3] o j):Dk i j (.slice A (l.length+1) c) (l++[x]):=
 ⟨by simpa using p,h.trans (t.below h.size)⟩
def DP(l:List Nat)(n:Nat):List Nat:=(List.range n).filter fun x=>decide (0<x)&&l.contains x
theorem U7{l:List Nat}{s:Nat}(i:0<s):DP l (s+1)=DP l s++if l.contains s then[s] else[]:=by unfold DP;rw[List.range_succ,List.filter_append];congr 1;cases h:l.contains s<;>simp[i]<;>simpa using h
theorem ND(l:List Nat)(n:Nat):(DP l n).length<=n:=by have h:=List.length_filter_le (fun x=>decide (0<x)&&l.contains x) (List.range n);simpa [DP] using h
def IL(w:World)(l:List Nat)(e:Ending)(w':World):Prop:=∃o,e=.returned o/\w'.ownsRow w.heap.size 3 1 o l.length (l.map AU)/\Below w.heap.size w w'
theorem Po{w:World}{v lv:Value}{g:Gz}(R:GN w v g){l:List Nat}(hs:EM w lv l)(a7:l.length<=100000) :
  Calls Tryz.prog 96 #[v,lv] w (IL w (DP l (g.top+1))):=by
 have ah:g.top<=240:=by have a4:=R.fit;unfold Gz.top;have:=a4.nt;have:=a4.nn;omega
 have a5:=Hd (fun(y:World) (C:Below w.heap.size w y)=>OW (R.later C));have HH:Hid (∀y,Below w.heap.size w y->∀x:Nat,Calls Tryz.prog 45 #[lv,.int .i64 x] y fun e w'=>e=.returned (.bool (l.contains x))/\w'=y):=Hd (fun y C x=>JJ (hs.later C) a7 x);obtain⟨Al,cl,rfl,-⟩:=hs;obtain⟨AT,cT,AN,cN,AR,cR,rfl,-,-⟩:=R.open_;have t:=Hd (Ay w (.cells #[.slice AT g.nt cT,.slice AN g.nn cN,.slice AR g.R.length cR,.int .i64 g.s] 32));have a3:=Hd (Ah.new w 32 #[.slice AT g.nt cT,.slice AN g.nn cN,.slice AR g.R.length cR,.int .i64 g.s]);clear R;generalize l.length=ln at *
 generalize aa:g.top=I at *;clear aa;unfold IL;go_enter Tryz.func96,Tryz.ntmps96
 go_wp2_with fail
 generalize w.alloc (.cells #[.slice AT g.nt cT,.slice AN g.nn cN,.slice AR g.R.length cR,.int .i64 g.s] 32)=P at *;go_loopw [6,5] (fun ss ab wr=>∃s:Nat,0<s/\s<=I+1/\ss=.int .i64 s/\Hid (Dk P wr ab (DP l s))) (fun ss _ _=>I+1-(intOf ss).toNat)
 case atStart=>exact⟨1,by omega,by omega,rfl,Hd (Dk.nil P)⟩
 case round=>
  obtain⟨s,a9,ag,rfl,o⟩:=hrel;rename World=>U
  have a1:Below w.heap.size w U:=t.out.trans (o.out.below.mono t.out.size);have p:=a3.out.below o.out.below a3.out.lt;have x0:=Ah.cell p 0;have x1:=Ah.cell p 1;have x2:=Ah.cell p 2;have x3:=Ah.cell p 3;have xl:=p.lt;simp at x0 x1 x2 x3;have HT:=Hd (a5.out U a1);have a2:=Hd a1;clear p a1;by_cases ae:s<=I
  ·have af:(s:Int)<=(I:Int):=by omega
   have HX:Hid (∀y,Below U.heap.size U y->Calls Tryz.prog 45 #[.slice Al ln cl,.int .i64 s] y fun e w'=>e=.returned (.bool (l.contains s))/\w'=y):=Hd (fun y C=>HH.out y (a2.out.trans (C.mono a2.out.size)) s);have HS:=Hd (U7 (l:=l) a9);generalize l.contains s=a at *;cases a with
   | false=>
    go_wp2_with (first
     | (go_at_call 44;refine HT.out.mono ?_;rintro e w2 ⟨rfl,i⟩;have j:=Hd i;have a0:=Hd (HX.out w2 i);clear i)
     | (go_at_call 45;refine a0.out.mono ?_;rintro e J ⟨rfl,rfl⟩))
    go_roundw
    case rel=>exact⟨s+1,by omega,by omega,by go_num,Hd (by rw[HS.out];simpa using o.out.later j.out)⟩
    case measure=>simp[intOf];omega
   | true=>
    obtain⟨At,ct,a6⟩:=Cv o.out.row;subst a6;have a8:=ND l s;obtain⟨T,hq⟩:∃n,(DP l s).length=n:=⟨_,rfl⟩
    rw[hq]at a8 o ⊢;have HQ:=Hd hq;clear hq;go_wp2_with (first
     | (go_at_call 44;refine HT.out.mono ?_;rintro e w2 ⟨rfl,i⟩;have j:=Hd (o.out.later i);have a0:=Hd (HX.out w2 i);clear i)
     | (go_at_call 45;refine a0.out.mono ?_;rintro e J ⟨rfl,rfl⟩)
     | (
      at_builtin;refine DA Ip (.tmp 16) (.tmp 18) rfl rfl (base:=P.heap.size) (n:=T) (m:=1) (N:=T+1) (v:=.slice At T ct) (src:=.slice (some ⟨J.heap.size,0,none⟩) 1 1) (xs:=(DP l s).map AU) (news:=[AU s]) rfl rfl (by have h:=(j.out.later (Ay J (.cells #[.int .i64 s] 3))).row;rw[HQ.out]at h;exact h) (Bc.An (c:=1) (cs:=[AU s]) (Ah.new J 3 #[.int .i64 s]) rfl (by simp[Value.oneCell',AU])) rfl (by unfold maxLen;omega) (by omega) (by have:=j.out.below.size;simp;omega) ?_
      intro A c ad r1 r2 r3;have HP:Hid (Dk P ad (.slice A (T+1) c) (DP l s++[s])):=Hd (by have h2:=HQ.out;subst h2;exact Dk.push (j.out.later (Ay J (.cells #[.int .i64 s] 3))).below r1 r2)
      clear r1 r2 r3))
    go_roundw
    case rel=>exact⟨s+1,by omega,by omega,by go_num,Hd (by rw[HS.out];exact HP.out)⟩
    case measure=>simp[intOf];omega
  ·obtain rfl:s=I+1:=by omega
   go_wp2_with (go_at_call 44;refine HT.out.mono ?_;rintro e w2 ⟨rfl,i⟩;have j:=Hd (o.out.later i);clear i)
   go_ret;exact⟨_,rfl,Ei j.out.row t.out.size,t.out.trans (j.out.below.mono t.out.size)⟩
def JF(l:List Nat)(x:Nat):List Nat:=if l.contains x then l else l++[x]
def FB(q:List Nat)(r:Nat×List Nat)(k:Nat):List Nat:=if q.contains r.1 then(r.2.drop k).foldl JF q else q
def N1(q:List Nat)(R:List (Nat×List Nat)):List Nat:=R.foldl (fun q r=>FB q r 0) q
def Iw(g:Gz):Nat->Nat->List Nat->Option (List Nat)
 | 0,_,_=>none
 | f+1,n,l=>if n=l.length then some l else if 10000<l.length then none else Iw g f l.length (N1 l g.R)
theorem YQ{l:List Nat}{x y:Nat}(h:l.contains y=true):(JF l x).contains y=true:=by
 unfold JF;split
 ·exact h
 ·simp at h ⊢;exact .inl h
theorem YY{q:List Nat}{r:Nat×List Nat}{k:Nat}(h:q.contains r.1=false):FB q r k=q:=by unfold FB;rw[h];rfl
theorem WH{q:List Nat}{r:Nat×List Nat}{k:Nat}(h:r.2.length<=k):FB q r k=q:=by unfold FB;rw[List.drop_of_length_le h];split<;>rfl
theorem fC{q:List Nat}{r:Nat×List Nat}{k x:Nat}(h:q.contains r.1=true)(i:r.2[k]?=some x):FB q r k=FB (JF q x) r (k+1):=by unfold FB;rw[h,YQ h,Er i,List.foldl_cons,if_pos rfl,if_pos rfl]
theorem Xv{w:World}{v:Value}{g:Gz}(hg:GN w v g){f:Nat}{P:List Nat}(hP:Iw g f 0 [g.s]=some P) :
  Calls Tryz.prog 97 #[v] w (IL w (DP P (g.top+1))):=by
 have ai:=hg.fit;have bh:=ai.nr;have b8:=Hd (fun(y:World) (hy:Below w.heap.size w y) (lv:Value) (l:List Nat) (h:EM y lv l) (hl:l.length<=100000)=>Po (hg.later hy) h hl);have HF:=Hd ai;have ar:=Hd hP;obtain⟨AT,cT,AN,cN,I,cR,rfl,b0,-⟩:=hg.open_;have a9:=Hd b0;have al:=Hd (Ay w (.cells #[.slice AT g.nt cT,.slice AN g.nn cN,.slice I g.R.length cR,.int .i64 g.s] 32));have ag:=Hd (Ah.new w 32 #[.slice AT g.nt cT,.slice AN g.nn cN,.slice I g.R.length cR,.int .i64 g.s]);clear hg hP b0 ai;unfold IL;go_enter Tryz.func97,Tryz.ntmps97
 go_wp2_with fail
 have b5:Hid (Dk (w.alloc (.cells #[.slice AT g.nt cT,.slice AN g.nn cN,.slice I g.R.length cR,.int .i64 g.s] 32)) ((w.alloc (.cells #[.slice AT g.nt cT,.slice AN g.nn cN,.slice I g.R.length cR,.int .i64 g.s] 32)).alloc (.cells #[.int .i64 g.s] 3)) (.slice (some ⟨w.heap.size+1,0,none⟩) 1 1) [g.s]):=Hd ⟨Mz (XS:=[AU g.s]) (by simpa [AU] using Ah.new (w.alloc (.cells #[.slice AT g.nt cT,.slice AN g.nn cN,.slice I g.R.length cR,.int .i64 g.s] 32)) 3 #[.int .i64 g.s]) (by simp) rfl (by decide),Ay _ _⟩;generalize w.alloc (.cells #[.slice AT g.nt cT,.slice AN g.nn cN,.slice I g.R.length cR,.int .i64 g.s] 32)=C at *
 generalize C.alloc (.cells #[.int .i64 g.s] 3)=w1 at *;generalize w.heap.size+1=b1 at *;have ah:Hid (∀y,Below C.heap.size C y->(y.cell? ⟨w.heap.size,0,none⟩=some (.slice AT g.nt cT)/\y.cell? ⟨w.heap.size,1,none⟩=some (.slice AN g.nn cN)/\y.cell? ⟨w.heap.size,2,none⟩=some (.slice I g.R.length cR)/\y.cell? ⟨w.heap.size,3,none⟩=some (.int .i64 g.s))/\w.heap.size<y.heap.size/\Below w.heap.size w y):=Hd (fun y hy=>by have a5:=ag.out.below hy ag.out.lt;exact⟨⟨a5.cell 0,a5.cell 1,a5.cell 2,a5.cell 3⟩,a5.lt,al.out.trans (hy.mono al.out.size)⟩)
 have b7:Hid (∀k r,g.R[k]?=some r->∃b off Ar cr,I=some ⟨b,off,none⟩/\∀y,Below w.heap.size w y->b<y.heap.size/\y.cell? ⟨b,off+k*2,none⟩=some (.int .i64 r.1)/\y.cell? ⟨b,off+k*2+1,none⟩=some (.slice Ar r.2.length cr)/\Bz y (.slice Ar r.2.length cr) r.2):=Hd (fun k r hR=>by obtain⟨b,off,rv,e,a6,c0,c1,R⟩:=a9.out k _ hR;obtain⟨⟨Ar,cr,rfl,-⟩,-,-⟩:=id R;exact⟨b,off,Ar,cr,e,fun y hb=>⟨A0 a6 hb.size,(hb.cell (p:=⟨b,off+k*2,none⟩) a6).trans c0,(hb.cell (p:=⟨b,off+k*2+1,none⟩) a6).trans c1,R.later hb⟩⟩)
 clear a9 ag;go_loopg [4,3] f (fun k nv tv wr=>∃(n:Nat) (l:List Nat),nv=.int .i64 n/\Hid (Dk C wr tv l)/\Hid (l.length<=20000)/\Hid (Iw g k n l=some P))
 case atStart=>exact⟨0,_,rfl,b5,Hd (by simp),ar⟩
 case round=>
  obtain⟨n,l,rfl,j,ao,HL⟩:=hrel;rename World=>w2
  obtain⟨At,ct,a4⟩:=Cv j.out.row;subst a4;have o:=HL.out;obtain⟨k',aa⟩:∃k',gk=k'+1:=by
   cases gk with
   | zero=>unfold Iw at o;cases o
   | succ k'=>exact⟨k',rfl⟩
  rw[aa]at o;unfold Iw at o;obtain⟨⟨x0,x1,x2,x3⟩,xl,p⟩:=ah.out w2 j.out.below;by_cases R:n=l.length
  ·rw[if_pos R]at o
   have o:l=P:=Option.some.inj o;have HS:=Hd (b8.out w2 p _ l j.out.read (by have:=ao.out;omega));have ae:=Hd p;subst o;obtain⟨ln,ab⟩:∃ln,l.length=ln:=⟨_,rfl⟩
   rw[ab]at R HS ⊢;subst R;clear ab p aa HL ar;go_wp2_with (go_at_call 96;refine HS.out.mono ?_;rintro e w3 ⟨bi,rfl,ho,aw⟩;have HO:=Hd (And.intro ho aw);clear ho aw)
   go_ret;exact⟨_,rfl,Ei HO.out.1 ae.out.size,ae.out.trans (HO.out.2.mono ae.out.size)⟩
  ·rw[if_neg R]at o
   have ay:l.length<=10000:=by
    by_cases h:10000<l.length
    ·rw[if_pos h]at o;cases o
    ·omega
   rw[if_neg (by omega)]at o;obtain⟨Z,hZ⟩:∃Z,N1 l g.R=Z:=⟨_,rfl⟩
   rw[hZ]at o;unfold N1 at hZ;have HZ:=Hd hZ;have aq:=Hd o;have HK:=Hd aa;have an:=Hd ay;obtain⟨ln,ab⟩:∃ln,l.length=ln:=⟨_,rfl⟩
   rw[ab]at R j aq ao an ⊢;have bf:((n:Int) != (ln:Int))=true:=by simp;omega
   clear p o aa HL hZ ay;go_wp2_with fail
   clear x0 x1 x2 x3 xl;go_loopw [5,3] (fun ii tv wr=>∃(i:Nat) (q:List Nat),i<=g.R.length/\ii=.int .i64 i/\Hid (Dk C wr tv q)/\Hid (q.length<=10000+8*i)/\Hid ((g.R.drop i).foldl (fun q r=>FB q r 0) q=Z)) (fun ii _ _=>g.R.length-(intOf ii).toNat)
   case atStart=>exact⟨0,l,AP _,rfl,j,Hd (by have:=an.out;omega),HZ⟩
   case round=>
    clear j;obtain⟨i,q,hi,rfl,j,t,a7⟩:=hrel;rename World=>w3
    obtain⟨A2,c2,a4⟩:=Cv j.out.row;subst a4;obtain⟨⟨x0,x1,x2,x3⟩,xl,p⟩:=ah.out w3 j.out.below;by_cases a6:i<g.R.length
    ·have hR:g.R[i]?=some (g.R.getD i (0,[])):=by rw[dG,eG a6];rfl
     have T:=a7.out;rw[Er hR,List.foldl_cons]at T;have b3:=HF.out.short _ (mG hR);obtain⟨b,off,Ar,cr,rfl,ad⟩:=b7.out i _ hR;generalize g.R.getD i (0,[])=r at *;obtain⟨lf,rr⟩:=r;simp only at ad b3;obtain⟨U,aj⟩:∃U,FB q (lf,rr) 0=U:=⟨_,rfl⟩
     rw[aj]at T;obtain⟨rl,ak⟩:∃rl,rr.length=rl:=⟨_,rfl⟩
     rw[ak]at ad b3;have av:=Hd ak;have b6:=Hd ad;have b4:=Hd aj;have a8:=Hd T;have be:(i:Int)<(g.R.length:Int):=by omega
     clear p hR T ad ak aj a7;go_wp2_with fail
     clear x0 x1 x2 x3 xl;go_loopw [6,3] (fun kk tv wr=>∃(k:Nat) (q:List Nat),k<=rl/\kk=.int .i64 k/\Hid (Dk C wr tv q)/\Hid (q.length<=10000+8*i+k)/\Hid (FB q (lf,rr) k=U)) (fun kk _ _=>rl-(intOf kk).toNat)
     case atStart=>exact⟨0,q,AP _,rfl,j,t,b4⟩
     case round=>
      clear j t;obtain⟨k,q,hk,rfl,j,t,a1⟩:=hrel;rename World=>w4
      obtain⟨A3,c3,a4⟩:=Cv j.out.row;subst a4;obtain⟨⟨x0,x1,x2,x3⟩,xl,p⟩:=ah.out w4 j.out.below;obtain⟨bl,d0,d1,az⟩:=b6.out w4 p;have H1:=Hd (JJ j.out.read (by have:=t.out;omega) lf);obtain⟨ql,a0⟩:∃n,q.length=n:=⟨_,rfl⟩
      have ba:=t.out;rw[a0]at H1 j ba ⊢;have au:=Hd a0;by_cases b9:k<rl
      ·obtain⟨x,hx⟩:∃x,rr[k]?=some x:=⟨_,eG (by rw[av.out];exact b9)⟩
       obtain⟨⟨Ad,cd,e,ax⟩,-,-⟩:=az;simp only[Value.slice.injEq]at e;obtain⟨rfl,-,rfl⟩:=e;obtain⟨b2,bj,rfl,bc,d2⟩:=ax k x hx;unfold AU at d2;have H2:=Hd (JJ (by have h:=j.out.read;rw[<-a0]at h;exact h) (by rw[a0];omega) x);rw[a0]at H2;have HX:=Hd hx;have bd:(k:Int)<(rl:Int):=by omega
       clear ax hx a0 p;cases a2:q.contains lf with
       | false=>
        rw[a2]at H1;have J:Hid (q=U):=Hd (by have h:=a1.out;rwa [YY a2]at h);clear a2 a1;go_wp2_with (go_at_call 45;with_reducible refine H1.out.mono ?_;rintro e w5 ⟨rfl,rfl⟩)
        go_roundw
        case rel=>exact⟨i+1,q,by omega,by go_num,j,Hd (by have:=t.out;omega),by rw[J.out];exact a8⟩
        case measure=>simp[intOf];omega
       | true=>
        rw[a2]at H1;have J:Hid (FB (JF q x) (lf,rr) (k+1)=U):=Hd (by have h:=a1.out;rwa [fC a2 HX.out]at h);clear a2 a1;cases a3:q.contains x with
        | true=>
         rw[a3]at H2;have af:Hid (FB q (lf,rr) (k+1)=U):=Hd (by have h:=J.out;unfold JF at h;rwa [if_pos a3]at h);clear a3 J;go_wp2_with (first
          | (go_at_call 45;with_reducible refine H1.out.mono ?_;rintro e w5 ⟨rfl,rfl⟩)
          | (go_at_call 45;with_reducible refine H2.out.mono ?_;rintro e w5 ⟨rfl,rfl⟩))
         go_roundw
         case rel=>exact⟨k+1,q,by omega,by go_num,j,Hd (by have:=t.out;omega),af⟩
         case measure=>simp[intOf];omega
        | false=>
         rw[a3]at H2;have af:Hid (FB (q++[x]) (lf,rr) (k+1)=U):=Hd (by have h:=J.out;unfold JF at h;rwa [if_neg (by rw[a3];decide)]at h);have a9:Hid (w4.ownsRow C.heap.size 3 1 (.slice A3 ql c3) ql (q.map AU)):=Hd (by have h:=j.out.row;rwa [au.out]at h);clear a3 J;go_wp2_with (first
          | (go_at_call 45;with_reducible refine H1.out.mono ?_;rintro e w5 ⟨rfl,rfl⟩)
          | (go_at_call 45;with_reducible refine H2.out.mono ?_;rintro e w5 ⟨rfl,rfl⟩)
          | (
           at_builtin;refine DA Ip (.tmp 56) (.tmp 66) rfl rfl (base:=C.heap.size) (n:=ql) (m:=1) (N:=ql+1) (v:=.slice A3 ql c3) (src:=.slice (some ⟨w5.heap.size,0,none⟩) 1 1) (xs:=q.map AU) (news:=[AU x]) rfl rfl (AS a9.out (Ay w5 (.cells #[.int .i64 x] 3))) (Bc.An (c:=1) (cs:=[AU x]) (Ah.new w5 3 #[.int .i64 x]) rfl (by simp[Value.oneCell',AU])) rfl (by unfold maxLen;omega) (by omega) (by have:=j.out.below.size;simp;omega) ?_
           intro A c bb r1 r2 r3;have HP:Hid (Dk C bb (.slice A (ql+1) c) (q++[x])):=Hd (by have h2:=au.out;subst h2;exact Dk.push (j.out.later (Ay w5 (.cells #[.int .i64 x] 3))).below r1 r2)
           clear r1 r2 r3))
         go_roundw
         case rel=>exact⟨k+1,q++[x],by omega,by go_num,HP,Hd (by have:=t.out;simp;omega),af⟩
         case measure=>simp[intOf];omega
      ·obtain rfl:k=rl:=by omega
       have J:Hid (q=U):=Hd (by have h:=a1.out;rwa [WH (by rw[av.out];exact AG _)]at h);clear az a0 p a1;go_wp2;go_roundw
       case rel=>exact⟨i+1,q,by omega,by go_num,j,Hd (by have:=t.out;omega),by rw[J.out];exact a8⟩
       case measure=>simp[intOf];omega
    ·obtain rfl:i=g.R.length:=by omega
     have T:=a7.out;rw[List.drop_length,List.foldl_nil]at T;have a8:=Hd T;clear T a7 p;go_wp2
     go_roundg (gk-1)
     case measure=>have:=HK.out;omega
     case rel=>exact⟨ln,q,rfl,j,Hd (by have:=t.out;omega),Hd (by rw[a8.out,HK.out,Nat.add_sub_cancel];exact aq.out)⟩
end Go.Proofs.YthaacmablcpdfaaGreatDoor
