/- . -/
import Derived.Test.YtendpobbjjaopaaGreatDoorXaj
set_option linter.all false
set_option maxRecDepth 100000
set_option maxHeartbeats 16000000
namespace Go.Proofs.YtendpobbjjaopaaGreatDoor
open Go.RowKit Go.Proofs.Tryz
open Value renaming slice→oG,int→oH,pointer→oI,string→oJ,bool→oK
open Option renaming some→oM,none→oN
open IntKind renaming i64→oO
open Obj renaming cells→oP
open Ending renaming returned→oQ
open World renaming cell?→oT
open Go renaming World→oU,Value→oV
variable{w:oU}{ev:oV}{P:Int->Bool}{A:Option Addr}{s:ByteArray}{c:Nat}
def LH(s:ByteArray):Int:=Lib.indexByte s.data.toList 61
def Kh(s:ByteArray):Int:=if LH s<0 then -1 else if Ek (s.data.toList.take (LH s).toNat)=true then LH s else -1
theorem Tu(l:List UInt8)(c:UInt8):Lib.indexByte l c<l.length:=by
 induction l with
 | nil=>simp[Lib.indexByte]
 | cons b l i=>
  unfold Lib.indexByte;simp only[List.length_cons];split
  ·omega
  ·split<;>omega
def Zr(s:ByteArray)(n:Nat):(s.extract 0 n).data.toList=s.data.toList.take n:=by rw[Lib.extract_data];simp
def VG(s:ByteArray) : -1<=Kh s/\Kh s<s.size:=by
 have i:=Tu s.data.toList 61;have j:s.data.toList.length=s.size:=by simp
 have l:=Lib.indexByte_ge s.data.toList 61;unfold Kh LH;split
 ·omega
 ·split<;>omega
def MG(s:ByteArray)(c:Int)(w:oU):Calls Tryz.prog 117 #[oJ s,oH .u8 c] w fun e w'=>e=oQ (oH oO (Lib.indexByte s.data.toList c.toNat.toUInt8))/\w'=w:=by
 have i:=Hd (Tryz.stringslite_IndexByte s c w);go_enter func117,ntmps117
 go_wp2_with (go_at_call 160;refine i.out.mono ?_;rintro e w' ⟨rfl,rfl⟩)
 go_ret;exact⟨rfl,rfl⟩
def fD(s:ByteArray)(T:s.size<=9223372036854775807)(w:oU):Calls Tryz.prog 105 #[oJ s] w fun e w'=>e=oQ (oH oO (Kh s))/\Below w.heap.size w w':=by
 have l:=Hd (MG s 61 w);have J:(61:Int).toNat.toUInt8=61:=rfl;rw[J]at l;have C:=Tu s.data.toList 61;have t:=Lib.indexByte_ge s.data.toList 61;have I:s.data.toList.length=s.size:=by simp
 rw[I]at C;unfold Kh LH;generalize Lib.indexByte s.data.toList 61=i at *;by_cases h0:i<0
 ·obtain rfl:i = -1:=by omega
  rw[if_pos h0];clear h0 C t;go_enter func105,ntmps105
  go_wp2_with (go_at_call 117;refine l.out.mono ?_;rintro e w' ⟨rfl,rfl⟩)
  go_ret;exact⟨rfl,Below.refl _ _⟩
 ·rw[if_neg h0]
  obtain⟨k,rfl⟩:∃k:Nat,i=k:=⟨i.toNat,nX⟩
  rw[Int.toNat_natCast];have P:k<s.size:=by omega
  have j:=Hd (Nk (s.extract 0 k) (by rw[ByteArray.size_extract];omega) w);rw[Zr]at j;have R:¬((k:Int)<0):=by omega
  cases o:Ek (s.data.toList.take k) with
  | true=>
   rw[o]at j;rw[if_pos rfl];clear o h0 t;go_enter func105,ntmps105
   go_wp2_with (first
    | (go_at_call 117;refine l.out.mono ?_;rintro e w' ⟨rfl,rfl⟩)
    | (go_at_call 29;refine j.out.mono ?_;rintro e w' ⟨rfl,p⟩))
   go_ret;exact⟨rfl,p⟩
  | false=>
   rw[o]at j;rw[if_neg oA];clear o h0 t;go_enter func105,ntmps105
   go_wp2_with (first
    | (go_at_call 117;refine l.out.mono ?_;rintro e w' ⟨rfl,rfl⟩)
    | (go_at_call 29;refine j.out.mono ?_;rintro e w' ⟨rfl,p⟩))
   go_ret;exact⟨rfl,p⟩
def Ep(l:List UInt8):Bool:=l.all fun d=>Bo d==3
def G5(l:List UInt8):Bool:=!l.isEmpty&&Ep l
def SC(s:ByteArray):G5 s.data.toList=(!decide (s.size=0)&&Ep s.data.toList):=by rw[<-L0];rfl
def Sq(s:ByteArray)(k:Nat)(h:k<s.size)(i:Ep s.data.toList=Ep (s.data.toList.drop k)):Ep s.data.toList=((Bo s[k]==3)&&Ep (s.data.toList.drop (k+1))):=by rw[i,H6 s k h];rfl
def VO(c:UInt8):((Bo c:Int)==3)=(Bo c==3):=by rw[Bool.eq_iff_iff,beq_iff_eq,beq_iff_eq];omega
def la(i:Int)(c:UInt8)(w:oU):Calls Tryz.prog 54 #[oH oO i,oH .u8 c.toNat] w fun e w'=>e=oQ (oK (Bo c==3))/\w=w':=by
 have j:=Hd (I4 c w);rw[<-VO];generalize (Bo c:Int)=q at *;go_enter func54,ntmps54
 go_wp2_with (go_at_call 53;refine j.out.mono ?_;rintro e w' ⟨rfl,rfl⟩)
 go_ret;exact⟨rfl,rfl⟩
def YU(s:ByteArray)(U:s.size<=9223372036854775807)(ha:E5 s.data.toList=true)(w:oU):Calls Tryz.prog 51 #[oJ s,.func (.func 54) #[] #[]] w fun e w'=>e=oQ (oK (G5 s.data.toList))/\Below w.heap.size w w':=by
 have J:Hid (∀k,∀h:k<s.size,s[k].toNat<128):=Hd (fun k h=>by
  have P:=List.all_eq_true.1 ha s[k] (by
   have:s.data.toList[k]?=oM s[k]:=by rw[Array.getElem?_toList];exact Array.getElem?_eq_getElem h
   exact mG this)
  exact of_decide_eq_true P)
 have I:=Hd (SC s);clear ha;go_enter func51,ntmps51
 go_wp2;go_loopw [] (fun wr=>∃k:Nat,k<=s.size/\wr=w.iter s k/\Hid (Ep s.data.toList=Ep (s.data.toList.drop k))) (fun wr=>s.size-wr.iterPos w.heap.size)
 case atStart=>exact⟨0,AX _,rfl,Hd rfl⟩
 case round=>
  obtain⟨k,T,rfl,j⟩:=hrel;by_cases C:k<s.size
  ·have R:∀i,(Instr.next (oI (oM ⟨w.heap.size,0,oN⟩)) true i).run Tryz.prog (w.iter s k)=_:=fun i=>run_next_ascii w s k i C (J.out k C)
   have p:=Hd (Sq s k C j.out);have o:=Hd (la k s[k] (w.iter s (k+1)));cases t:Bo s[k]==3 with
   | true=>
    rw[t]at o p;have l:Hid (Ep s.data.toList=Ep (s.data.toList.drop (k+1))):=Hd (by rw[p.out,Bool.true_and]);clear t j;go_wp2_with (go_at_call 54;refine o.out.mono ?_;rintro e w' ⟨rfl,rfl⟩)
    go_roundw
    case rel=>exact⟨k+1,nX,rfl,l⟩
    case measure=>simp;omega
   | false=>
    rw[t]at o p;have l:Hid (Ep s.data.toList=false):=Hd (by rw[p.out,Bool.false_and]);clear t j;go_wp2_with (go_at_call 54;refine o.out.mono ?_;rintro e w' ⟨rfl,rfl⟩)
    go_ret;exact⟨Cr (by rw[I.out,l.out,Bool.and_false]),M6 w s _⟩
  ·have R:∀i,(Instr.next (oI (oM ⟨w.heap.size,0,oN⟩)) true i).run Tryz.prog (w.iter s k)=_:=fun i=>run_next_end w s k i C
   obtain rfl:k=s.size:=by omega
   have l:Hid (Ep s.data.toList=true):=Hd (by rw[j.out,Lx];rfl);clear j;go_wp2;go_ret;refine⟨Cr ?_,M6 w s _⟩;rw[I.out,l.out,Bool.and_true];rw[show s.toList=s.data.toList from ByteArray.toList_eq s,L0]
def lR{l:List UInt8}(h:G5 l=true):E5 l=true:=by
 simp only[G5,Ep,Bool.and_eq_true,List.all_eq_true,beq_iff_eq]at h;unfold E5;rw[List.all_eq_true];intro d j;rw[decide_eq_true_eq];by_cases i:d.toNat<128
 ·exact i
 ·have:=Qn i
  have:=h.2 d j;omega
theorem mc(s:ByteArray)(o:s.size<=9223372036854775807)(w:oU):Calls Tryz.prog 30 #[oJ s] w fun e w'=>e=oQ (oK (G5 s.data.toList))/\Below w.heap.size w w':=by
 have i:=Hd (P8 s o w);cases ha:E5 s.data.toList with
 | true=>
  rw[ha]at i;have t:=Hd (YU s o ha w);clear ha;go_enter func30,ntmps30
  go_wp2_with (first
   | (go_at_call 50;refine i.out.mono ?_;rintro e w' ⟨rfl,rfl⟩)
   | (go_at_call 51;refine t.out.mono ?_;rintro e w' ⟨rfl,j⟩;have p:=Hd j;clear j))
  go_ret;exact⟨rfl,p.out⟩
 | false=>
  rw[ha]at i;have l:G5 s.data.toList=false:=by
   cases h:G5 s.data.toList with
   | false=>rfl
   | true=>rw[lR h]at ha;cases ha
  rw[l];clear ha l;go_enter func30,ntmps30
  go_wp2_with (go_at_call 50;refine i.out.mono ?_;rintro e w' ⟨rfl,rfl⟩)
  go_ret;exact⟨rfl,Below.refl _ _⟩
def cJ(s:ByteArray)(R:s.size<=9223372036854775807)(w:oU):Calls Tryz.prog 36 #[oJ s] w fun e w'=>e=oQ (oK (G5 s.data.toList))/\w=w':=by
 have C:=Hd (SC s);go_enter func36,ntmps36
 go_wp2
 go_loop [3] (fun i=>∃k:Nat,k<=s.size/\i=oH oO k/\Hid (Ep s.data.toList=Ep (s.data.toList.drop k))) (fun i=>s.size-(intOf i).toNat)
 case atStart=>exact⟨0,AX _,rfl,Hd rfl⟩
 case round=>
  obtain⟨k,J,rfl,t⟩:=hrel;by_cases I:k<s.size
  ·have o:=Hd (Sq s k I t.out)
   have p:=Hd (QP s[k] w);have T:s.size≠0:=by omega
   by_cases l:Bo s[k]=3
   ·have j:Hid (Ep s.data.toList=Ep (s.data.toList.drop (k+1))):=Hd (by rw[o.out,l];rfl)
    rw[l]at p;clear l o;go_wp2_with (go_at_call 56;refine p.out.mono ?_;rintro e w' ⟨rfl,rfl⟩)
    go_round
    case rel=>exact⟨k+1,nX,oD,j⟩
    case measure=>simp[intOf];omega
   ·have j:Hid (Ep s.data.toList=false):=Hd (by rw[o.out,bN.2 l];rfl)
    have P:((Bo s[k]:Int) != 3)=true:=by simp;omega
    generalize Bo s[k]=q at *;clear l o;go_wp2_with (go_at_call 56;refine p.out.mono ?_;rintro e w' ⟨rfl,rfl⟩)
    go_ret;exact⟨Cr (by rw[C.out,j.out,Bool.and_false]),rfl⟩
  ·obtain rfl:k=s.size:=by omega
   have j:Hid (Ep s.data.toList=true):=Hd (by rw[t.out,Lx];rfl);clear t;go_wp2;go_ret;exact⟨Cr (by rw[C.out,j.out];exact size_pos s),rfl⟩
def Ask(w:oU)(ev:oV)(t:Int)(b:Bool):Prop:=∀y,Below w.heap.size w y->Calls Tryz.prog 20 #[ev,oH oO t] y fun e i=>e=oQ (oK b)/\Below y.heap.size y i
def Ask.later{y:oU}{t:Int}{b:Bool}(h:Ask w ev t b)(i:Below w.heap.size w y):Ask y ev t b:=fun z j=>h z (i.trans (j.mono i.size))
def Fo(w:oU)(ev:oV)(P:Int->Bool):Prop:=∀t,Ask w ev t (P t)
def Fo.later{y:oU}(h:Fo w ev P)(i:Below w.heap.size w y):Fo y ev P:=fun t=>(h t).later i
def Ns(P:Int->Bool):Int:=if P 3&&P 14 then 1 else if P 3 then 3 else if P 14&&P 1 then 2 else 0
def Qg(l:D9 w)(h:Fo w ev P):Calls Tryz.prog 17 #[ev] w fun e w'=>e=oQ (oH oO (Ns P))/\Below w.heap.size w w':=by
 have I:Hid (Calls Tryz.prog 26 #[oH oO 9] w fun e w'=>e=oQ (oH oO 14)/\w=w'):=Hd (UT 9 l);have t:=Hd fun y (j:Below w.heap.size w y)=>h 14 y j
 have C:=Hd fun y (j:Below w.heap.size w y)=>h 3 y j
 have p:=Hd fun y (j:Below w.heap.size w y)=>h 1 y j
 unfold Ns;clear h l;generalize P 3=T,P 14=R,P 1=J at *;cases T<;>cases R<;>cases J
 all_goals
  have i:=Hd (Below.refl w.heap.size w);go_enter func17,ntmps17
  go_wp2_with (first
   | (go_at_call 26;refine I.out.mono ?_;rintro e U ⟨rfl,rfl⟩)
   | (
    go_at_call 20;(first|(with_reducible refine(t.out _ i.out).mono ?_)|(with_reducible refine(C.out _ i.out).mono ?_)|(with_reducible refine(p.out _ i.out).mono ?_));rintro e U ⟨rfl,o⟩
    replace i:=Hd (i.out.trans (o.mono i.out.size));clear o))
  go_ret;exact⟨rfl,i.out⟩
def I0(w:oU)(A:Option Addr)(s:ByteArray):Prop:=∃b off,A=oM ⟨b,off,oN⟩/\b<w.heap.size/\oT w ⟨b,off,oN⟩=oM (oH oO 1)/\oT w ⟨b,off+1,oN⟩=oM (oJ s)
def I0.later{y:oU}(h:I0 w A s)(j:Below w.heap.size w y):I0 y A s:=by obtain⟨b,off,rfl,i,l,o⟩:=h;exact⟨b,off,rfl,A0 i j.size,(j.cell (p:=⟨b,_,oN⟩) i).trans l,(j.cell (p:=⟨b,_,oN⟩) i).trans o⟩
def Rw(h:I0 w A s):Calls Tryz.prog 40 #[.agg #[oG A 1 c]] w fun e w'=>e=oQ (.tuple #[oJ s,oK true])/\Below w.heap.size w w':=by
 obtain⟨b,off,rfl,j,i,c1⟩:=h;go_enter func40,ntmps40
 go_wp2
 go_ret2
 exact⟨rfl,AG _ _⟩
def nC{fn:Func}{t p u:Tmp}{ty:TypeId}{P:Program}{tmps:Array oV}{a:Addr}{v:oV}(h:fn.results=#[.tmp t,.cell p ty,.tmp u])(i:tmps.getD p undef=oI (oM a))(j:(loadVar ty a).run P w=.ok v w) :
  (results fn tmps).run P w=.ok (.tuple #[tmps.getD t undef,v,tmps.getD u undef]) w:=by
 rw[Array.getD_eq_getD_getElem?]at i;simp only[results,h];simp[Result.andThen,i,asAddr,j]
def aW(h:I0 w A s)(k2:s.size<=9223372036854775807)(a0:Kh s<0):Calls Tryz.prog 68 #[.agg #[oG A 1 c]] w fun e w'=>(∃x A N C,e=oQ (.tuple #[oJ x,.agg #[oG A N C],oK false]))/\Below w.heap.size w w':=by
 obtain⟨b,off,rfl,a1,c0,c1⟩:=h;have U:=VG s;have o:=Hd (fD s k2);obtain t:Kh s = -1:=by omega
 rw[t]at o;clear U a0 t;go_enter func68,ntmps68
 go_wp2_with (
   go_at_call 105;refine(o.out _).mono ?_;rintro e l ⟨rfl,j⟩
   have I:Ah l w.heap.size 55 #[oG (oM ⟨b,off,oN⟩) 1 c]:=((Ah.new w 55 _).alloc _).below j oC;have i:Ah l (w.heap.size+1) 55 #[oG oN 0 0]:=by have:=Ah.new (w.alloc (oP #[oG (oM ⟨b,off,oN⟩) 1 c] 55)) 55 #[oG oN 0 0];rw[World.size_alloc]at this;exact this.below j oA
   have p:Below w.heap.size w l:=((AG w _).alloc oA _).trans (j.mono oC);have R:=I.cell 0;have T:=i.cell 0;have f1:=i.frozen 0;have a2:=i.lt;simp at R T;have P:=Hd i;have J:=Hd p;clear I i p j)
 refine bodyPost_ret (nC rfl rfl (v:=.agg #[oG oN 0 0]) (a:=⟨w.heap.size+1,0,oN⟩) ?_) rfl ?_
 ·have:=(P.out.Ba 0 (oG oN 0 0)).cell 0
  simp at this;simp[go_sem,this]
 ·exact⟨⟨_,_,_,_,rfl⟩,J.out.setCell (p:=⟨w.heap.size+1,0,oN⟩) oA _⟩
def LR(K op:Int)(A:Option Addr)(n c:Nat)(N:ByteArray):oV:=.agg #[oH oO K,oH oO op,oG A n c,oJ N]
def Ra(w:oU)(cs:Array oV):Below w.heap.size w (w.alloc (oP cs 57))/\∀y,Below (w.alloc (oP cs 57)).heap.size (w.alloc (oP cs 57)) y->Below w.heap.size w y/\Ah y w.heap.size 57 cs:=by have h:=AG w (oP cs 57);exact⟨h,fun y i=>⟨h.trans (i.mono h.size),(Ah.new w 57 cs).below i oA⟩⟩
def Xa(l:D9 w):Calls Tryz.prog 67 #[ev,oJ ⟨#[102]⟩] w fun e w'=>e=oQ (oH oO 0)/\w=w':=by
 have i:=bJ ⟨#[102]⟩ l;rw[show Lo ⟨#[102]⟩=0 by decide +kernel]at i;have j:=Hd i;clear i;go_enter func67,ntmps67
 go_wp2_with (go_at_call 104;refine j.out.mono ?_;rintro e o ⟨rfl,rfl⟩)
 go_ret;exact⟨rfl,rfl⟩
def Qi(T:D9 w)(h:Fo w ev P)(R:P 3=true)(J:I0 w A ⟨#[102]⟩) :
  Calls Tryz.prog 41 #[ev,.agg #[oG A 1 c]] w fun e w'=>e=oQ (oH oO 3)/\Below w.heap.size w w':=by
 have t:=AG w (oP #[oG A 1 c] 55);have o:∀y,Below (w.alloc (oP #[oG A 1 c] 55)).heap.size (w.alloc (oP #[oG A 1 c] 55)) y->Below w.heap.size w y:=fun y j=>t.trans (j.mono t.size)
 have HX:Hid (∀y,Below (w.alloc (oP #[oG A 1 c] 55)).heap.size (w.alloc (oP #[oG A 1 c] 55)) y->oT y ⟨w.heap.size,0,oN⟩=oM (oG A 1 c)/\w.heap.size<y.heap.size):=Hd fun y j=>by have h:=(Ah.new w 55 #[oG A 1 c]).below j oA;exact⟨h.cell 0,h.lt⟩
 have HP:=Hd fun y j=>Rw (c:=c) (J.later (o y j))
 have HA:=Hd fun y j=>aW (c:=c) (J.later (o y j)) nY (by decide +kernel)
 have HR:=Hd fun y j=>Xa (ev:=ev) (T.later (o y j))
 have I:=Nk ⟨#[102]⟩ nY;rw[show Ek (⟨#[102]⟩:ByteArray).data.toList=true by decide +kernel]at I;have HN:=Hd I;have C:=fun y j=>h 3 y (o y j)
 rw[R]at C;have H3:=Hd C;have HE:=Hd fun y j=>(o y j)
 clear h T J o t I C R;have i:=Hd (Below.refl (w.alloc (oP #[oG A 1 c] 55)).heap.size (w.alloc (oP #[oG A 1 c] 55)));go_enter func41,ntmps41
 go_wp2_with (first
  | (go_at_call 40;refine(HP.out _ i.out).mono ?_;rintro e p ⟨rfl,l⟩;replace i:=Hd (i.out.trans (l.mono i.out.size));obtain⟨d1,l1⟩:=HX.out _ i.out;clear l)
  | (go_at_call 67;refine(HR.out _ i.out).mono ?_;rintro e p ⟨rfl,rfl⟩)
  | (go_at_call 68;refine(HA.out _ i.out).mono ?_;rintro e p ⟨⟨x,U,N1,C1,rfl⟩,l⟩;replace i:=Hd ((i.out.trans (l.mono i.out.size)).trans ((AG p (oP #[oG U N1 C1] 55)).mono (i.out.trans (l.mono i.out.size)).size));clear l)
  | (go_at_call 29;refine(HN.out _).mono ?_;rintro e p ⟨rfl,l⟩;replace i:=Hd (i.out.trans (l.mono i.out.size));clear l)
  | (go_at_call 20;refine(H3.out _ i.out).mono ?_;rintro e p ⟨rfl,l⟩;replace i:=Hd (i.out.trans (l.mono i.out.size));clear l))
 go_ret;exact⟨rfl,HE.out _ i.out⟩
def Z2(l:D9 w)(h:Fo w ev P)(J:P 3=true)(p:I0 w A ⟨#[102]⟩) :
  Calls Tryz.prog 18 #[ev,LR 1 0 A 1 c ⟨#[]⟩] w fun e w'=>e=oQ (oH oO 3)/\Below w.heap.size w w':=by
 obtain⟨h0,i⟩:=Ra w #[oH oO 1,oH oO 0,oG A 1 c,oJ ⟨#[]⟩];have I:=Hd (Qi (c:=c) (l.later h0) (h.later h0) J (p.later h0));have j:=(i _ (Below.refl _ _)).2;have T:=j.cell 0;have U:=j.cell 2;simp at T U;have C:=Hd fun y R=>(i y R).1
 unfold LR;clear h0 i j l h p;go_enter func18,ntmps18
 go_wp2_with (go_at_call 41;refine I.out.mono ?_;rintro e w1 ⟨rfl,o⟩;have t:=Hd (C.out _ o);clear o)
 go_ret;exact⟨rfl,t.out⟩
def ZB(p:D9 w)(h:Fo w ev P)(h3:P 3=true)(J:Ns P=1)(C:I0 w A ⟨#[102]⟩) :
  Calls Tryz.prog 16 #[ev,LR 1 0 A 1 c ⟨#[]⟩,oK false] w fun e w'=>e=oQ (.tuple #[oJ ⟨#[102]⟩,oK true])/\Below w.heap.size w w':=by
 obtain⟨h0,l⟩:=Ra w #[oH oO 1,oH oO 0,oG A 1 c,oJ ⟨#[]⟩];have I:Hid (∀y,Below (w.alloc (oP #[oH oO 1,oH oO 0,oG A 1 c,oJ ⟨#[]⟩] 57)).heap.size (w.alloc (oP #[oH oO 1,oH oO 0,oG A 1 c,oJ ⟨#[]⟩] 57)) y->oT y ⟨w.heap.size,0,oN⟩=oM (oH oO 1)/\oT y ⟨w.heap.size,2,oN⟩=oM (oG A 1 c)/\w.heap.size<y.heap.size):=Hd fun y j=>by have h:=(l y j).2;exact⟨h.cell 0,h.cell 2,h.lt⟩
 have HP:=Hd fun y j=>Rw (c:=c) (C.later (l y j).1)
 have HW:=Hd fun y j=>Qi (c:=c) (p.later (l y j).1) (h.later (l y j).1) h3 (C.later (l y j).1)
 have t:=fun y j=>Qg (p.later (l y j).1) (h.later (l y j).1)
 rw[J]at t;have U:=Hd t;have T:=Hd fun y j=>(l y j).1
 have i:=Hd (Below.refl (w.alloc (oP #[oH oO 1,oH oO 0,oG A 1 c,oJ ⟨#[]⟩] 57)).heap.size (w.alloc (oP #[oH oO 1,oH oO 0,oG A 1 c,oJ ⟨#[]⟩] 57)));obtain⟨d0,d2,dl⟩:=I.out _ i.out;unfold LR;clear h0 l p h C t J;go_enter func16,ntmps16
 go_wp2_with (first
  | (go_at_call 40;refine(HP.out _ i.out).mono ?_;rintro e R ⟨rfl,o⟩;replace i:=Hd (i.out.trans (o.mono i.out.size));obtain⟨d0,d2,dl⟩:=I.out _ i.out;clear o)
  | (go_at_call 41;refine(HW.out _ i.out).mono ?_;rintro e R ⟨rfl,o⟩;replace i:=Hd (i.out.trans (o.mono i.out.size));clear o)
  | (go_at_call 17;refine(U.out _ i.out).mono ?_;rintro e R ⟨rfl,o⟩;replace i:=Hd (i.out.trans (o.mono i.out.size));clear o))
 go_ret2
 exact⟨rfl,T.out _ i.out⟩
