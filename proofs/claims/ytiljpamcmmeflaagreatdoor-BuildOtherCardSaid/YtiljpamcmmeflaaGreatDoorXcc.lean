/- . -/
import Derived.Test.YtiljpamcmmeflaaGreatDoorXca
set_option linter.all false
set_option maxRecDepth 100000
set_option maxHeartbeats 16000000
namespace Go.Proofs.YtiljpamcmmeflaaGreatDoor
open Go.RowKit Go.Proofs.Tryz
open Value renaming slice→nC,int→nE,string→nH
open Option renaming some→nJ,none→nK
open IntKind renaming i64→nM
open Obj renaming cells→nO
open Ending renaming returned→nP
open Go renaming World→nS,Value→nU
variable{A:Option Addr}{s:ByteArray}{c:Nat}{v:nU}{x:Int}{cs:List nU}
def LL(s:ByteArray):Int:=Lib.indexByte s.data.toList 61
def I9(s:ByteArray):Int:=if LL s<0 then -1 else if E9 (s.data.toList.take (LL s).toNat)=true then LL s else -1
theorem UP(l:List UInt8)(c:UInt8):Lib.indexByte l c<l.length:=by
 induction l with
 | nil=>simp[Lib.indexByte]
 | cons b l i=>
  unfold Lib.indexByte;simp only[List.length_cons];split
  ·omega
  ·split<;>omega
def iA(s:ByteArray)(n:Nat):(s.extract 0 n).data.toList=s.data.toList.take n:=by rw[Lib.extract_data];simp
def VI(s:ByteArray) : -1<=I9 s/\I9 s<s.size:=by
 have i:=UP s.data.toList 61;have j:s.data.toList.length=s.size:=by simp
 have l:=Lib.indexByte_ge s.data.toList 61;unfold I9 LL;split
 ·omega
 ·split<;>omega
def YF(s:ByteArray)(c:Int)(w:nS):Calls Tryz.prog 91 #[nH s,nE .u8 c] w fun e w'=>e=nP (nE nM (Lib.indexByte s.data.toList c.toNat.toUInt8))/\w'=w:=by
 have i:=Hd (Tryz.stringslite_IndexByte s c w);go_enter func91,ntmps91
 go_wp2_with (go_at_call 130;refine i.out.mono ?_;rintro e w' ⟨rfl,rfl⟩)
 go_ret;exact⟨rfl,rfl⟩
def aW(s:ByteArray)(T:s.size<=9223372036854775807)(w:nS):Calls Tryz.prog 53 #[nH s] w fun e w'=>e=nP (nE nM (I9 s))/\Below w.heap.size w w':=by
 have l:=Hd (YF s 61 w);have J:(61:Int).toNat.toUInt8=61:=rfl;rw[J]at l;have C:=UP s.data.toList 61;have t:=Lib.indexByte_ge s.data.toList 61;have I:s.data.toList.length=s.size:=by simp
 rw[I]at C;unfold I9 LL;generalize Lib.indexByte s.data.toList 61=i at *;by_cases h0:i<0
 ·obtain rfl:i = -1:=by omega
  rw[if_pos h0];clear h0 C t;go_enter func53,ntmps53
  go_wp2_with (go_at_call 91;refine l.out.mono ?_;rintro e w' ⟨rfl,rfl⟩)
  go_ret;exact⟨rfl,Below.refl _ _⟩
 ·rw[if_neg h0]
  obtain⟨k,rfl⟩:∃k:Nat,i=k:=⟨i.toNat,mR⟩
  rw[Int.toNat_natCast];have P:k<s.size:=by omega
  have j:=Hd (OE (s.extract 0 k) (by rw[ByteArray.size_extract];omega) w);rw[iA]at j;have R:¬((k:Int)<0):=by omega
  cases o:E9 (s.data.toList.take k) with
  | true=>
   rw[o]at j;rw[if_pos rfl];clear o h0 t;go_enter func53,ntmps53
   go_wp2_with (first
    | (go_at_call 91;refine l.out.mono ?_;rintro e w' ⟨rfl,rfl⟩)
    | (go_at_call 26;refine j.out.mono ?_;rintro e w' ⟨rfl,p⟩))
   go_ret;exact⟨rfl,p⟩
  | false=>
   rw[o]at j;rw[if_neg mV];clear o h0 t;go_enter func53,ntmps53
   go_wp2_with (first
    | (go_at_call 91;refine l.out.mono ?_;rintro e w' ⟨rfl,rfl⟩)
    | (go_at_call 26;refine j.out.mono ?_;rintro e w' ⟨rfl,p⟩))
   go_ret;exact⟨rfl,p⟩
def Hk(w:nS)(A:Option Addr)(s:ByteArray):Prop:=∃b off,A=nJ ⟨b,off,nK⟩/\b<w.heap.size/\w.cell? ⟨b,off,nK⟩=nJ (nE nM 1)/\w.cell? ⟨b,off+1,nK⟩=nJ (nH s)
def Hk.later{w y:nS}(h:Hk w A s)(j:Below w w y):Hk y A s:=by obtain⟨b,off,rfl,i,l,o⟩:=h;exact⟨b,off,rfl,AK i j.size,(j.cell (p:=⟨b,_,nK⟩) i).trans l,(j.cell (p:=⟨b,_,nK⟩) i).trans o⟩
def iL{w:nS}(h:Hk w A s):() 56 #[.agg #[nC A 1 c]] w fun e w'=>e=nP (.tuple #[nH s,.bool true])/\Below w w w':=by
 obtain⟨b,off,rfl,j,i,c1⟩:=h;go_enter func56,ntmps56
 go_wp2
 go_ret2
 exact⟨rfl,AE _ _⟩
def Vs{w:nS}{N:ByteArray}{op:Int}(h:Hk w A s):() 25 #[.agg #[nE nM 1,op,nC A 1 c,nH N]] w fun e w'=>e=nP (.tuple #[nH s,.bool true])/\Below w w w':=by
 have j:=AE w (nO #[nE nM 1,op,nC A 1 c,nH N] 26);have t:=Hd (iL (c:=c) (h.later j));have p:=Hd (Ah.new w 26 #[nE nM 1,op,nC A 1 c,nH N]);have i:=Hd j;clear h j;go_enter func25,ntmps25
 go_upto_region 2 with(
  go_at_call 56;refine t.mono ?_;rintro e I ⟨rfl,l⟩
  have o:=p.below l p.lt;have C:=o.cell 0;have J:=o.lt;simp at C;replace i:=Hd (i.trans (l.mono i.size));clear o l)
 go_quiet (fail)
 go_wp2_with fail
 go_ret2
 exact⟨rfl,⟨i.os,i.tape,i.output,i.size,i.block⟩⟩
def Z5{fn:Func}{t p u:Tmp}{ty:TypeId}{P:Program}{w:nS}{tmps:Array nU}{a:Addr}(h:fn.results=#[.tmp t,.cell p ty,.tmp u])(i:tmps.getD p undef=.pointer (nJ a))(j:(loadVar ty a).run P w=.ok v w) :
  (results fn tmps).run P w=.ok (.tuple #[tmps.getD t undef,v,tmps.getD u undef]) w:=by
 rw[Array.getD_eq_getD_getElem?]at i;simp only[results,h];simp[Result.andThen,i,asAddr,j]
def jU{w:nS}(h:Hk w A s)(k2:s.size<=9223372036854775807)(a0:I9 s<0):() 24 #[.agg #[nC A 1 c]] w fun e w'=>(∃x A N C,e=nP (.tuple #[nH x,.agg #[nC A N C],.bool false]))/\Below w w w':=by
 obtain⟨b,off,rfl,a1,c0,c1⟩:=h;have U:=VI s;have o:=Hd (aW s k2);obtain t:I9 s = -1:=by omega
 rw[t]at o;clear U a0 t;go_enter func24,ntmps24
 go_wp2_with (
   go_at_call 53;refine(o _).mono ?_;rintro e l ⟨rfl,j⟩
   have I:Ah l w.heap.size 24 #[nC (b,off) 1 c]:=((Ah.new w 24 _).alloc _).below j mX;have i:Ah l (w.heap.size+1) 24 #[nC nK 0 0]:=by have:=Ah.new (w.alloc (nO #[nC (b,off) 1 c] 24)) 24 #[nC nK 0 0];rw[World.size_alloc]at this;exact this.below j mV
   have p:Below w w l:=((AE w _).alloc mV _).trans (j.mono mX);have R:=I.cell 0;have T:=i.cell 0;have f1:=i.frozen 0;have a2:=i.lt;simp at R T;have P:=Hd i;have J:=Hd p;clear I i p j)
 refine bodyPost_ret (Z5 rfl rfl (v:=.agg #[nC nK 0 0]) (a:=⟨w.heap.size+1,0,nK⟩) ?_) rfl ?_
 ·have:=(P.AW 0 (nC nK 0 0)).cell 0
  simp at this;simp[go_sem,this]
 ·exact⟨⟨_,_,_,_,rfl⟩,J.setCell (p:=⟨w.heap.size+1,0,nK⟩) mV _⟩
def T3{k:Int}(h:5<k):(k==1)=false/\(k==2)=false/\(k==3)=false/\(k==4)=false/\(k==5)=false:=by simp only[bN];omega
def No(k:Int)(s:ByteArray):Bool:=if k=1 then true else if k=3 then E9 s.data.toList else if 23<=k then JN s==k else false
def Sg{w:nS}{bb:Nat}{k op:Int}{N:ByteArray}(R:Ip w)(h:Hk w A s)(t:s.size<=9223372036854775807)(T:I9 s<0)(h1:1<=k)(h2:k<=38) :
  () 9 #[(bb,0),k,.agg #[nE nM 1,op,nC A 1 c,nH N]] w fun e w'=>e=nP (.bool (No k s))/\Below w w w':=by
 have l:=AE w (nO #[nE nM 1,op,nC A 1 c,nH N] 26);have U:=Hd (jU (c:=c) (h.later l) t T);have HP:=Hd (Vs (c:=c) (op:=op) (N:=N) (h.later l));have HN:=Hd (OE s t);have HR:=Hd fun y (hy:Below w w y)=>Zv s (R.later hy)
 have i:=Hd l;have J:=Hd (Ah.new w 26 #[nE nM 1,op,nC A 1 c,nH N]);clear l h t T R;unfold No;generalize E9 s.data.toList=nb,JN s=rs at *;have hk:k=1\/k=2\/k=3\/k=4\/k=5\/(6<=k/\k<=22)\/23<=k:=by omega
 rcases hk with rfl|rfl|rfl|rfl|rfl|⟨P,h4⟩|P
 case' inr.inr.inr.inr.inr.inl=>
  have p:5<k:=by omega
  obtain⟨e2,e3,e4,e5,e6⟩:=T3 p;have a0:k<23:=by omega
  have C:¬k=1:=by omega
  have I:¬k=3:=by omega
  have a1:¬23<=k:=by omega
  rw[if_neg C,if_neg I,if_neg a1]
 case' inr.inr.inr.inr.inr.inr=>
  have p:5<k:=by omega
  obtain⟨e2,e3,e4,e5,e6⟩:=T3 p;have a0:¬k<23:=by omega
  have C:¬k=1:=by omega
  have I:¬k=3:=by omega
  rw[if_neg C,if_neg I,if_pos P]
 all_goals go_enter func9,ntmps9
 all_goals go_wp2_with (first
  | (go_at_call 24;refine U.mono ?_;rintro e w2 ⟨⟨x,A',N',C',rfl⟩,j⟩;have o:=J.below j J.lt;have x0:=o.cell 0;have xl:=o.lt;simp at x0;replace i:=Hd (i.trans (j.mono i.size));clear o j)
  | (go_at_call 25;refine HP.mono ?_;rintro e w2 ⟨rfl,j⟩;replace i:=Hd (i.trans (j.mono i.size));clear j)
  | (go_at_call 26;refine(HN _).mono ?_;rintro e w3 ⟨rfl,j⟩;replace i:=Hd (i.trans (j.mono i.size));clear j)
  | (go_at_call 28;refine(HR _ i).mono ?_;rintro e w3 ⟨rfl,rfl⟩))
 all_goals go_ret
 all_goals first|exact⟨rfl,i⟩|exact⟨rfl,i.alloc i.size _⟩
def Lj(y:nS)(b:Nat)(s:ByteArray):Prop:=Ah y b 115 #[nE nM 1,nH s,nH ⟨#[]⟩,nC nK 0 0,nC nK 0 0]
def Lj.lit{y:nS}{b:Nat}(h:Lj y b s):Hk y (b,0) s:=⟨b,0,rfl,Ah.lt h,Ah.cell h 0,Ah.cell h 1⟩
def Z8(w:nS)(s:ByteArray):() 36 #[nH s] w fun e w'=>∃b,e=nP (.agg #[nE nM 1,nE nM 0,nC (nJ ⟨b,0,nK⟩) 1 1,nH ⟨#[]⟩])/\Lj w' b s/\Below w w w':=by
 go_enter func36,ntmps36
 go_wp2;refine bodyPost_ret (Jl rfl rfl (a:=⟨w.heap.size,0,nK⟩) (v:=.agg #[nE nM 1,nE nM 0,nC (w.heap.size+1,0) 1 1,nH ⟨#[]⟩]) ?_) rfl ⟨_,rfl,Ah.newAt mV,(AE w _).alloc mV _⟩;go_simp
def Gw(y:nS)(x:Int)(cs:List nU):Prop:=(x=5/\cs=[nE nM 4,nE nM 0,nC nK 0 0,nH ⟨#[]⟩,nH ⟨#[104,10]⟩])\/∃b s,cs=[nE nM 1,nE nM 0,nC (nJ ⟨b,0,nK⟩) 1 1,nH ⟨#[]⟩,nH ⟨#[104,10]⟩]/\Lj y b s/\((x=1/\s=⟨#[119]⟩)\/(x=3/\s=⟨#[102]⟩))
def Gw.keeps{B:Nat}{y z:nS}(h:Gw y x cs)(o:AI B [50] y z):Gw z x cs:=by
 rcases h with h|⟨b,s,i,j,l⟩
 ·exact .inl h
 ·exact .inr ⟨b,s,i,o.Ap j (.inr mT),l⟩
def Gw.later{y z:nS}(h:Gw y x cs)(o:Below y y z):Gw z x cs:=by
 rcases h with h|⟨b,s,j,i,l⟩
 ·exact .inl h
 ·exact .inr ⟨b,s,j,Ah.below i o (Ah.lt i),l⟩
def me:El Tryz.prog 39 50 5 72:=El.of (z:=.agg #[nE nM 0,nE nM 0,nC nK 0 0,nH ⟨#[]⟩,nH ⟨#[]⟩]) underlying39 mU mU mT
structure Hf(w y:nS)(l:List Int)(i:Nat)(o:nU):Prop where
 be:Below w w y
 row:∃xs:List (List nU),xs.length=i/\y.ownsRow w 50 5 o i xs.flatten/\∀(j:Nat) x cs,l[j]?=nJ x->xs[j]?=nJ cs->Gw y x cs
variable{w:nS}{l:List Int}
def Hf.later{y z:nS}{i:Nat}{o:nU}(h:Hf w y l i o)(p:Below y y z):Hf w z l i o:=by obtain⟨P,C,I,J⟩:=h.row;exact⟨h.be.trans (p.mono h.be.size),P,C,AV I p,fun j x t a b=>(J j x t a b).later p⟩
def Hf.put{p I:nS}{o:Obj}{i:Nat}{xs:List (List nU)}{news:List nU}(t:Below w w p)(J:xs.length=i)(P:∀(j:Nat) x cs,l[j]?=nJ x->xs[j]?=nJ cs->Gw p x cs)(T:Gw p x news)(U:l[i]?=nJ x)(r1:I.ownsRow w 50 5 v (i+1) (xs.flatten++news))(C:AI w [50] (p.alloc o) I):Hf w I l (i+1) v:=by
 refine⟨(t.trans ((AE p o).mono t.size)).trans (C.below (AY t.size (AE p o).size)),xs++[news],by simp[J],by simpa using r1,fun j y cs a b=>?_⟩;by_cases hj:j<i
 ·rw[gL mR]at b
  exact((P j y cs a b).later (AE p o)).keeps C
 ·have R:=(sG.1 b).1
  rw[BS,List.length_singleton]at R;obtain rfl:j=i:=by omega
  rw[<-J]at b;simp at b;subst b;cases Option.some.inj (U.symm.trans a)
  exact(T.later (AE p o)).keeps C
def Qu{n:Nat}(hn:l.length=n)(aa:n<=1000)(hl:∀x∈l,x=1\/x=3\/x=5)(ha:∀(j:Nat) x,l[j]?=nJ x->∃b off,A=nJ ⟨b,off,nK⟩/\b<w.heap.size/\w.cell? ⟨b,off+j,nK⟩=nJ (nE nM x)) :
  () 14 #[nC A n c] w fun e w'=>∃A' c',e=nP (nC A' n c')/\Hf w w' l n (nC A' n c'):=by
 have HN:=Hd hn;have HA:=Hd ha;have HL:=Hd hl;clear hn ha hl;go_enter func14,ntmps14
 go_wp2_with fail
 go_loopw [3,4] (fun ov iv wr=>∃(i:Nat) (P:Option Addr) (co:Nat),i<=n/\iv=nE nM i/\ov=nC P i co/\Hid (Hf w wr l i (nC P i co))) (fun _ iv _=>n-(intOf iv).toNat)
 case atStart=>exact⟨0,nK,0,A0 _,rfl,rfl,Hd ⟨Below.refl _ _,[],rfl,⟨rfl,.inl ⟨rfl,rfl⟩⟩,fun j x cs a b=>by cases b⟩⟩
 case round=>
  obtain⟨i,P,co,hi,rfl,rfl,I⟩:=hrel;by_cases a7:i<n
  ·obtain⟨x,o⟩:∃x,l[i]?=nJ x:=⟨_,eG (by rw[HN.out];exact a7)⟩
   obtain⟨lb,off,rfl,ll,l0⟩:=HA i x o;have d0:=(I.be.cell (p:=⟨lb,_,nK⟩) ll).trans l0;have dl:=AK ll I.be.size;have a6:(i:Int)<(n:Int):=by omega
   have HX:=Hd o;have a9:=HL x (mG o);have J:=Hd (Ah.new wr 26 #[nE nM 0,nE nM 0,nC nK 0 0,nH ⟨#[]⟩]);have p:=Hd (AE wr (nO #[nE nM 0,nE nM 0,nC nK 0 0,nH ⟨#[]⟩] 26));clear o ll l0;rcases a9 with rfl|rfl|rfl;all_goals go_upto_region 19 with(
       go_at_call 36;refine(Z8 _ _).mono ?_;rintro e w2 ⟨b,rfl,hp,U⟩
       have o:=J.below U J.lt;have x0:=o.cell 0;have x1:=o.cell 1;have x2:=o.cell 2;have x3:=o.cell 3;have f0:=o.frozen 0;have f1:=o.frozen 1;have f2:=o.frozen 2;have f3:=o.frozen 3;have xl:=o.lt;simp at x0 x1 x2 x3;have HP:=Hd hp;replace p:=Hd (p.trans (U.mono p.size));replace J:=Hd o;clear o U hp)
   all_goals obtain⟨xs,a3,ho,a2⟩:=I.row
   all_goals first
    | (
     obtain⟨t,T⟩:∃t,(((w2.setCell (wr,0) (nE nM 1)).setCell (wr,1) (nE nM 0)).setCell (wr,2) (nC (nJ ⟨b,0,nK⟩) 1 1)).setCell (wr,3) (nH ⟨#[]⟩)=t:=⟨_,rfl⟩
     have hc:Aj (fun j=>j=wr.heap.size) w2 t:=by rw[<-T];exact((((Aj.refl (fun j=>j=wr.heap.size) w2).set (p:=⟨wr.heap.size,0,nK⟩) (.inr rfl) _).set (p:=⟨wr.heap.size,1,nK⟩) (.inr rfl) _).set (p:=⟨wr.heap.size,2,nK⟩) (.inr rfl) _).set (p:=⟨wr.heap.size,3,nK⟩) (.inr rfl) _
     have C:Ah t wr.heap.size 26 #[nE nM 1,nE nM 0,nC (nJ ⟨b,0,nK⟩) 1 1,nH ⟨#[]⟩]:=by rw[<-T];exact(((J.AW 0 (nE nM 1)).AW 1 (nE nM 0)).AW 2 (nC (nJ ⟨b,0,nK⟩) 1 1)).AW 3 (nH ⟨#[]⟩)
     have a8:=hc.Ap HP (fun e=>by have R:=HP.out;unfold Lj Ah at R;have h2:=J.out;unfold Ah at h2;rw[e,h2]at R;cases R);have a1:Hid (Gw t _ _):=Hd (.inr ⟨b,_,rfl,a8,by first|exact .inl ⟨rfl,rfl⟩|exact .inr ⟨rfl,rfl⟩⟩);replace p:=Hd (p.trans (hc.below p.size fun k hk e=>by omega));rw[T];clear x0 x1 x2 x3 f0 f1 f2 f3 xl)
    | (
     have C:=Ah.new wr 26 #[nE nM 4,nE nM 0,nC nK 0 0,nH ⟨#[]⟩];have a1:=Hd (show Gw (wr.alloc (nO #[nE nM 4,nE nM 0,nC nK 0 0,nH ⟨#[]⟩] 26)) 5 _ from .inl ⟨rfl,rfl⟩);replace p:=Hd (AE wr (nO #[nE nM 4,nE nM 0,nC nK 0 0,nH ⟨#[]⟩] 26));generalize wr.alloc (nO #[nE nM 4,nE nM 0,nC nK 0 0,nH ⟨#[]⟩] 26)=t at *)
   all_goals have z0:=C.cell 0
   all_goals have z1:=C.cell 1
   all_goals have z2:=C.cell 2
   all_goals have z3:=C.cell 3
   all_goals have zl:=C.lt
   all_goals simp at z0 z1 z2 z3
   all_goals have a0:=Hd (I.be.trans (p.mono I.be.size))
   all_goals have HO:=Hd (AV ho p)
   all_goals have a4:=Hd fun j x cs a b=>(a2 j x cs a b).later p
   all_goals have a5:=Hd a3
   all_goals clear C ho a2 a3
   all_goals go_wp2_with (
      at_builtin;refine Du me (.tmp 65) (.tmp 68) rfl rfl (base:=w.heap.size) (n:=i) (m:=1) (N:=i+1) (v:=nC P i co) (src:=nC (t,0) 1 1) (xs:=xs.flatten) (news:=_) rfl rfl (AV HO (AE t _)) (Ba.Ap (c:=1) (Ah.new t 50 _) rfl mZ) rfl mW mR (by have:=a0.size;simp;omega) ?_
      intro A7 c7 w7 r1 r2 r3;have HF:=Hd (Hf.put a0 a5 a4 a1 HX r1 r2);clear r1 r2 r3 z0 z1 z2 z3 zl)
   all_goals go_roundw
   all_goals first
    | exact⟨i+1,_,_,mR,mY,rfl,HF⟩
    | (simp[intOf];omega)
  ·obtain rfl:i=n:=by omega
   have a6:¬((i:Int)<(i:Int)):=by omega
   go_wp2_with fail
   go_ret;exact⟨_,_,rfl,I⟩
