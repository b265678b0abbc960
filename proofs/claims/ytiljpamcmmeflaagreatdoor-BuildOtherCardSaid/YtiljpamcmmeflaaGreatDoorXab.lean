/- . -/
import Derived.Test.YtiljpamcmmeflaaGreatDoorRows
import Derived.Test.YtiljpamcmmeflaaGreatDoorXaa
import Derived.WalkSpells
import Derived.WalkLawsBesides
import Derived.BigQuiet
import Derived.Deep.QuietTactic
import Derived.Laws.RangeString
import Derived.Laws.RangeAny
import Derived.Test.YtiljpamcmmeflaaGreatDoorXnm
set_option linter.all false
set_option maxRecDepth 100000
set_option maxHeartbeats 16000000
namespace Go.Proofs.YtiljpamcmmeflaaGreatDoor
open Go.RowKit
open Value renaming slice→nC,int→nE,string→nH,bool→nI
open Option renaming some→nJ,none→nK
open IntKind renaming i64→nM
open Ending renaming returned→nP
open Go renaming World→nS,Value→nU
variable{w':nS}{i:Type}{A:Option Addr}
def C9{a b:Bool}(h:a=b):Ending.returned (nI a)=nP (nI b):=by rw[h]
def B9(c:UInt8):Nat:=
 if c=0 then 0 else if c=32\/c=9 then 1 else if c=10 then 2
 else if c=38\/c=124\/c=59\/c=60\/c=62\/c=40\/c=41 then 5
 else if c=39\/c=34\/c=92\/c=96 then 6
 else if c=36 then 7
 else if 48<=c/\c<=57 then 3
 else if c=95\/(97<=c|||32/\c|||32<=122) then 4
 else 8
def Pq(n o:Int):Nat:=if 48<=n/\n<=57 then 3 else if n=95\/(97<=o/\o<=122) then 4 else 8
def Pg(n o:Int):Nat:=
 if n=0 then 0 else if n=32\/n=9 then 1 else if n=10 then 2
 else if n=38\/n=124\/n=59\/n=60\/n=62\/n=40\/n=41 then 5
 else if n=39\/n=34\/n=92\/n=96 then 6
 else if n=36 then 7 else Pq n o
def Lk:List UInt8:=(List.range 256).map UInt8.ofNat
def Mr(c:UInt8):c∈Lk:=List.mem_map.2 ⟨c.toNat,List.mem_range.2 c.toNat_lt,mV⟩
def iQ:Lk.all (fun c=>Pg c.toNat (bits .or .u8 c.toNat 32)==B9 c)=true:=by kernel_rfl
def bF(c:UInt8):Pg c.toNat (bits .or .u8 c.toNat 32)=B9 c:=by have:=List.all_eq_true.1 iQ c (Mr c);exact beq_iff_eq.1 this
def Zp(c:UInt8)(w:nS):() 94 #[nE .u8 c.toNat] w fun e w'=>e=nP (nE nM (Pq c.toNat (bits .or .u8 c.toNat 32)))/\w'=w:=by
 go_enter Tryz.func94,Tryz.ntmps94
 generalize (c.toNat:Int)=n;go_wp2;all_goals go_ret
 all_goals refine⟨?_,rfl⟩
 all_goals refine congrArg (fun k:Int=>Ending.returned (Value.int nM k)) ?_
 all_goals (
  unfold Pq;try simp only[beq_iff_eq,bN]at *
  repeat' split
  all_goals first|rfl|(exfalso;omega))
def Oo(c:UInt8)(w:nS):() 60 #[nE .u8 c.toNat] w fun e w'=>e=nP (nE nM (B9 c))/\w'=w:=by
 rw[<-bF];have i:=Hd (Zp c);go_enter Tryz.func60,Tryz.ntmps60
 go_wp2_with (go_at_call 94;refine(i _).mono ?_;rintro e w' ⟨rfl,rfl⟩)
 all_goals go_ret
 all_goals refine⟨?_,rfl⟩
 all_goals refine congrArg (fun k:Int=>Ending.returned (Value.int nM k)) ?_
 all_goals clear i
 all_goals generalize (c.toNat:Int)=n at *
 all_goals (
  unfold Pg;try simp only[beq_iff_eq,bN]at *
  repeat' split
  all_goals first|rfl|(exfalso;omega))
def JJ{a b:Nat}(h:a=b):Ending.returned (nE nM (a:Int))=nP (nE nM (b:Int)):=by rw[h]
def E9:List UInt8->Bool
 | []=>false
 | c::r=>B9 c==4&&r.all fun d=>B9 d==4||B9 d==3
def Je(s:ByteArray)(k:Nat)(h:k<s.size):s.data.toList.drop k=s[k]::s.data.toList.drop (k+1):=by rw[List.drop_eq_getElem_cons (by simpa using h)];rfl
def Pa(s:ByteArray):s.data.toList.drop s.size=[]:=List.drop_of_length_le mV
theorem Ob(s:ByteArray):s.data.toList.isEmpty=decide (s.size=0):=by
 have h:s.data.toList.length=s.size:=by simp
 cases i:s.data.toList with
 | nil=>rw[i]at h;simp at h;simp[<-h]
 | cons a l=>rw[i]at h;simp at h;simp[<-h]
def N6(l:List UInt8):Bool:=l.all fun d=>B9 d==4||B9 d==3
def F4(k:Nat)(l:List UInt8):Bool:=if k=0 then(match l with|[]=>true|c::r=>B9 c==4&&N6 r) else N6 l
theorem gD(s:ByteArray):E9 s.data.toList=(!decide (s.size=0)&&F4 0 s.data.toList):=by
 rw[<-Ob];cases s.data.toList with
 | nil=>rfl
 | cons c r=>simp[E9,F4,N6]
def E0(c:UInt8):Bool:=33<=c.toNat&&c.toNat<=126&&c.toNat != 39
def Pv(n:Int):Bool:=decide (33<=n)&&decide (n<=126)&&!(n==39)
def Z1:Lk.all (fun c=>Pv c.toNat==E0 c)=true:=by kernel_rfl
def lg(c:UInt8):Pv c.toNat=E0 c:=beq_iff_eq.1 (List.all_eq_true.1 Z1 c (Mr c))
def eF(c:UInt8)(w:nS):() 177 #[nE .u8 c.toNat] w fun e w'=>e=nP (nI (E0 c))/\w=w':=by
 rw[<-lg];go_enter Tryz.func177,Tryz.ntmps177
 generalize (c.toNat:Int)=n;unfold Pv;go_wp2;all_goals go_ret
 all_goals refine⟨C9 ?_,rfl⟩
 all_goals (rw[Bool.eq_iff_iff];simp[*]<;>omega)
def Gd(l:List UInt8):Bool:=l.all fun c=>decide (c.toNat<128)
def jL(s:ByteArray)(J:s.size<=9223372036854775807)(w:nS):() 57 #[nH s] w fun e w'=>e=nP (nI (Gd s.data.toList))/\w=w':=by
 go_enter Tryz.func57,Tryz.ntmps57
 go_wp2
 go_loop [6] (fun i=>∃k:Nat,k<=s.size/\i=nE nM k/\Hid (Gd s.data.toList=Gd (s.data.toList.drop k))) (fun i=>s.size-(intOf i).toNat)
 case atStart=>exact⟨0,A0 _,rfl,Hd rfl⟩
 case round=>
  obtain⟨k,I,rfl,o⟩:=hrel;by_cases C:k<s.size
  ·have p:=Hd (Je s k C)
   have l:Hid (Gd s.data.toList=(decide (s[k].toNat<128)&&Gd (s.data.toList.drop (k+1)))):=Hd (by rw[o.out,p.out];rfl);by_cases h:s[k].toNat<128
   ·have j:Hid (Gd s.data.toList=Gd (s.data.toList.drop (k+1))):=Hd (by rw[l.out,decide_eq_true h,Bool.true_and])
    have t:(s[k].toNat:Int)<128:=by omega
    clear h;go_wp2
    go_round
    case rel=>exact⟨k+1,mR,mY,j⟩
    case measure=>simp[intOf];omega
   ·have j:Hid (Gd s.data.toList=false):=Hd (by rw[l.out,decide_eq_false h,Bool.false_and])
    have t:128<=(s[k].toNat:Int):=by omega
    clear h;go_wp2;go_ret;exact⟨C9 j.symm,rfl⟩
  ·obtain rfl:k=s.size:=by omega
   have j:Hid (Gd s.data.toList=true):=Hd (by rw[o.out,Pa];rfl);go_wp2;go_ret;exact⟨C9 j.symm,rfl⟩
def nameAt(i:Int)(q:Int):Bool:=(q==4)||((q==3)&&decide (0<i))
def Zw(i:Int)(c:UInt8)(w:nS):() 59 #[i,nE .u8 c.toNat] w fun e w'=>e=nP (nI (nameAt i (B9 c)))/\w=w':=by
 have j:=Hd (Oo c w);generalize (B9 c:Int)=q at *;unfold nameAt;go_enter Tryz.func59,Tryz.ntmps59
 go_wp2_with (go_at_call 60;refine j.mono ?_;rintro e w' ⟨rfl,rfl⟩)
 all_goals go_ret
 all_goals exact⟨C9 (by simp[*]),rfl⟩
def VS(k:Nat)(c:UInt8):nameAt k (B9 c)=(B9 c==4||(B9 c==3&&k != 0)):=by
 have i:((B9 c:Int)==4)=(B9 c==4):=by rw[Bool.eq_iff_iff,beq_iff_eq,beq_iff_eq];omega
 have j:((B9 c:Int)==3)=(B9 c==3):=by rw[Bool.eq_iff_iff,beq_iff_eq,beq_iff_eq];omega
 have l:decide ((0:Int)<(k:Int))=(k != 0):=by rw[Bool.eq_iff_iff,decide_eq_true_eq,bne_iff_ne];omega
 unfold nameAt;rw[i,j,l]
def gI(s:ByteArray)(k:Nat)(h:k<s.size)(l:F4 0 s.data.toList=F4 k (s.data.toList.drop k)):F4 0 s.data.toList=(nameAt k (B9 s[k])&&F4 (k+1) (s.data.toList.drop (k+1))):=by
 rw[l,Je s k h,VS];unfold F4;rw[if_neg (Nat.succ_ne_zero k)];by_cases i:k=0
 ·rw[if_pos i];simp[i]
 ·have j:(k != 0)=true:=by simpa using i
  rw[if_neg i,j,Bool.and_true];rfl
def QR(w:nS)(s:ByteArray)(k:Nat):Below w w (w.iter s k):=(Below.refl _ _).alloc (AF _) _
def aI(s:ByteArray)(U:s.size<=9223372036854775807)(ha:Gd s.data.toList=true)(w:nS):() 58 #[nH s,.func (.func 59) #[] #[]] w fun e w'=>e=nP (nI (E9 s.data.toList))/\Below w w w':=by
 have J:Hid (∀k,∀h:k<s.size,s[k].toNat<128):=Hd (fun k h=>by
  have P:=List.all_eq_true.1 ha s[k] (by
   have:s.data.toList[k]?=nJ s[k]:=by rw[Array.getElem?_toList];exact Array.getElem?_eq_getElem h
   exact mG this)
  exact of_decide_eq_true P)
 have I:=Hd (gD s);clear ha;go_enter Tryz.func58,Tryz.ntmps58
 go_wp2;go_loopw [] (fun wr=>∃k:Nat,k<=s.size/\wr=w.iter s k/\Hid (F4 0 s.data.toList=F4 k (s.data.toList.drop k))) (fun wr=>s.size-wr.iterPos w.heap.size)
 case atStart=>exact⟨0,A0 _,rfl,Hd rfl⟩
 case round=>
  obtain⟨k,T,rfl,j⟩:=hrel;by_cases C:k<s.size
  ·have R:∀i,(Instr.next (w,0) true i).run Tryz.prog (w.iter s k)=_:=fun i=>run_next_ascii w s k i C (J k C)
   have p:=Hd (gI s k C j);have o:=Hd (Zw k s[k] (w.iter s (k+1)));cases t:nameAt k (B9 s[k]) with
   | true=>
    rw[t]at o p;have l:Hid (F4 0 s.data.toList=F4 (k+1) (s.data.toList.drop (k+1))):=Hd (by rw[p.out,Bool.true_and]);clear t j;go_wp2_with (go_at_call 59;refine o.mono ?_;rintro e w' ⟨rfl,rfl⟩)
    go_roundw
    case rel=>exact⟨k+1,mR,rfl,l⟩
    case measure=>simp;omega
   | false=>
    rw[t]at o p;have l:Hid (F4 0 s.data.toList=false):=Hd (by rw[p.out,Bool.false_and]);clear t j;go_wp2_with (go_at_call 59;refine o.mono ?_;rintro e w' ⟨rfl,rfl⟩)
    go_ret;exact⟨C9 (by rw[I.out,l.out,Bool.and_false]),QR w s _⟩
  ·have R:∀i,(Instr.next (w,0) true i).run Tryz.prog (w.iter s k)=_:=fun i=>run_next_end w s k i C
   obtain rfl:k=s.size:=by omega
   have l:Hid (F4 0 s.data.toList=true):=Hd (by rw[j.out,Pa];unfold F4;split<;>rfl)
   clear j;go_wp2;go_ret;refine⟨C9 ?_,QR w s _⟩;rw[I.out,l.out,Bool.and_true];rw[show s.toList=s.data.toList from ByteArray.toList_eq s,Ob]
def X5{c:UInt8}(h:¬c.toNat<128):B9 c=8:=by have h0:=List.all_eq_true.1 (show Lk.all (fun c=>decide (c.toNat<128)||(B9 c==8))=true by kernel_rfl) c (Mr c);rw[decide_eq_false h,Bool.false_or]at h0;exact beq_iff_eq.1 h0
theorem Xo{l:List UInt8}(h:E9 l=true):Gd l=true:=by
 cases l with
 | nil=>cases h
 | cons c r=>
  simp only[E9,Bool.and_eq_true,beq_iff_eq,List.all_eq_true,Bool.or_eq_true]at h;unfold Gd;rw[List.all_eq_true];intro d i;rw[decide_eq_true_eq];by_cases j:d.toNat<128
  ·exact j
  ·have o:=X5 j
   rcases List.mem_cons.1 i with rfl|i
   ·omega
   ·rcases h.2 d i with e|e<;>omega
theorem OE(s:ByteArray)(o:s.size<=9223372036854775807)(w:nS):() 26 #[nH s] w fun e w'=>e=nP (nI (E9 s.data.toList))/\Below w w w':=by
 have i:=Hd (jL s o w);cases ha:Gd s.data.toList with
 | true=>
  rw[ha]at i;have t:=Hd (aI s o ha w);clear ha;go_enter Tryz.func26,Tryz.ntmps26
  go_wp2_with (go_at_call 57;refine i.mono ?_;rintro e w' ⟨rfl,rfl⟩)
  refine t.mono ?_;rintro e w' ⟨rfl,j⟩;have p:=Hd j;clear j;go_wp2;go_ret;exact⟨rfl,p⟩
 | false=>
  rw[ha]at i;have l:E9 s.data.toList=false:=by
   cases h:E9 s.data.toList with
   | false=>rfl
   | true=>rw[Xo h]at ha;cases ha
  rw[l];clear ha l;go_enter Tryz.func26,Tryz.ntmps26
  go_wp2_with (go_at_call 57;refine i.mono ?_;rintro e w' ⟨rfl,rfl⟩)
  go_ret;exact⟨rfl,Below.refl _ _⟩
def CQ(l:List UInt8):Bool:=E9 l&&decide (l.length<=24)
def Il(t:ByteArray):t.data.toList.length=t.size:=by simp
def Rf(s:ByteArray)(p:s.size<=9223372036854775807)(w:nS):() 99 #[nH s] w fun e w'=>e=nP (nI (CQ s.data.toList))/\Below w w w':=by
 have l:=Hd (OE s p w);unfold CQ;rw[Il];generalize E9 s.data.toList=b at *;by_cases h:s.size<=24
 ·rw[decide_eq_true h,Bool.and_true]
  have o:(s.size:Int)<=24:=by omega
  clear h;go_enter Tryz.func99,Tryz.ntmps99
  go_wp2_with fail
  refine l.mono ?_;rintro e w' ⟨rfl,i⟩;have j:=Hd i;clear i;go_wp2;go_ret;exact⟨rfl,j⟩
 ·rw[decide_eq_false h,Bool.and_false]
  have o:¬(s.size:Int)<=24:=by omega
  clear h;go_enter Tryz.func99,Tryz.ntmps99
  go_wp2;go_ret;exact⟨rfl,Below.refl _ _⟩
def Bs(l:List UInt8):Nat:=(l.takeWhile E0).length
def Qe(l:List UInt8):Bs l<=l.length:=(List.takeWhile_sublist E0).length_le
def QC(c:UInt8)(l:List UInt8):Bs (c::l)=if E0 c then Bs l+1 else 0:=by unfold Bs;rw[List.takeWhile_cons];split<;>simp
def TN(s:ByteArray)(p k:Nat):Prop:=p+k<=s.size/\Bs (s.data.toList.drop p)=k+Bs (s.data.toList.drop (p+k))
def O5(s:ByteArray)(R:s.size<=4611686018427387904)(p:Nat)(P:p<=s.size)(w:nS):() 155 #[nH s,p,.func (.func 177) #[] #[]] w fun e w'=>e=nP (nE nM (Bs (s.data.toList.drop p)))/\w=w':=by
 go_enter Tryz.func155,Tryz.ntmps155
 go_wp2
 go_loop [7] (fun n=>∃k:Nat,p+k<=s.size/\n=nE nM k/\Hid (TN s p k)) (fun n=>s.size-(intOf n).toNat)
 case atStart=>exact⟨0,mR,rfl,Hd ⟨mR,mV⟩⟩
 case round=>
  obtain⟨k,J,rfl,t⟩:=hrel;by_cases I:p+k<s.size
  ·have C:=Hd (Je s (p+k) I)
   have o:=Hd (eF s[p+k] w);cases j:E0 s[p+k] with
   | true=>
    rw[j]at o;have l:Hid (TN s p (k+1)):=Hd ⟨mR,by have i:=t.2;rw[C.out,QC,if_pos j]at i;rw[i];show k+(Bs (s.data.toList.drop (p+k+1))+1)=k+1+Bs (s.data.toList.drop (p+(k+1)));rw[Nat.add_assoc p k 1];omega⟩
    clear j;go_wp2_with (go_at_call 177;refine o.mono ?_;rintro e w' ⟨rfl,rfl⟩)
    go_round
    case rel=>exact⟨k+1,mR,mY,l⟩
    case measure=>simp[intOf];omega
   | false=>
    rw[j]at o;have l:Hid (Bs (s.data.toList.drop p)=k):=Hd (by have i:=t.2;rw[C.out,QC,j]at i;simpa using i)
    clear j;go_wp2_with (go_at_call 177;refine o.mono ?_;rintro e w' ⟨rfl,rfl⟩)
    go_ret;exact⟨JJ l.symm,rfl⟩
  ·have l:Hid (Bs (s.data.toList.drop p)=k):=Hd (by
    have i:=t.2;rw[show s.data.toList.drop (p+k)=[] from List.drop_of_length_le mX]at i;simpa [Bs] using i)
   go_wp2;go_ret;exact⟨JJ l.symm,rfl⟩
def MF(k:Int)(i:k≠0)(p:Int)(w:nS):() 85 #[k,p] w fun e w'=>e=nP (.iface 217 (w,0))/\Below w w w':=by
 have h0:(k==0)=false:=by simpa using i
 clear i;go_enter Tryz.func85,Tryz.ntmps85
 go_wp2;go_ret;exact⟨rfl,(Below.refl _ _).alloc (AF _) _⟩
def KL(s:ByteArray):Prop:=1+Bs (s.data.toList.drop 1)<s.size/\s.data.toList[1+Bs (s.data.toList.drop 1)]?=nJ 39/\Bs (s.data.toList.drop 1)≠0/\1+Bs (s.data.toList.drop 1)<24
def get_some(s:ByteArray)(k:Nat)(h:k<s.size):s.data.toList[k]?=nJ s[k]:=by rw[Array.getElem?_toList];exact Array.getElem?_eq_getElem h
def eU(s:ByteArray)(t:s.size<=4611686018427387904)(h:KL s)(w:nS):() 136 #[nH s,nE nM 0] w fun e w'=>e=nP (.tuple #[nE nM ((Bs (s.data.toList.drop 1)+2:Nat):Int),.nilIface])/\w=w':=by
 obtain⟨o,i,p,C⟩:=h;have l:=Hd (O5 s t 1 mR w);generalize Bs (s.data.toList.drop 1)=k at *;have j:s[1+k]=39:=by rw[get_some s _ o]at i;exact Option.some.inj i
 have I:((s[1+k].toNat:Int) != 39)=false:=by rw[j];rfl
 have J:((1:Int)+(k:Int)==1)=false:=bN.2 mR;clear i j p;go_enter Tryz.func136,Tryz.ntmps136
 go_wp2_with fail
 refine l.mono ?_;rintro e w' ⟨rfl,rfl⟩;go_wp2
 go_ret2
 exact⟨mX,rfl⟩
def aN(w:nS)(e:Ending)(w':nS):Prop:=∃A,e=nP (.tuple #[nE nM 0,.iface 217 (.pointer (nJ A))])/\Below w w w'
def iX(s:ByteArray)(P:s.size<=4611686018427387904)(h0:0<s.size)(h:¬KL s)(w:nS):() 136 #[nH s,nE nM 0] w (aN w):=by
 have p:=Hd (O5 s P 1 mR w);have U:Bs (s.data.toList.drop 1)<s.size:=by have:=Qe (s.data.toList.drop 1);simp only[List.length_drop,Il]at this;omega
 unfold KL at h;generalize Bs (s.data.toList.drop 1)=k at *;by_cases I:1+k<s.size
 ·by_cases o:s[1+k]=39
  ·have J:((s[1+k].toNat:Int) != 39)=false:=by rw[o];rfl
   by_cases t:k=0
   ·subst t
    clear h o;go_enter Tryz.func136,Tryz.ntmps136
    go_wp2_with fail
    refine p.mono ?_;rintro e l ⟨rfl,rfl⟩;go_wp2_with (go_at_call 85;refine(MF _ mT _ _).mono ?_;rintro e l ⟨rfl,i⟩;have j:=Hd i;clear i)
    go_ret2
    exact⟨_,rfl,j⟩
   ·have T:((1:Int)+(k:Int)==1)=false:=bN.2 mR
    have C:24<=1+k:=by
     by_cases C:1+k<24
     ·exfalso
      exact h ⟨I,by rw[get_some s _ I,o],t,C⟩
     ·omega
    have R:24<=(1:Int)+(k:Int):=by omega
    clear h o t C;go_enter Tryz.func136,Tryz.ntmps136
    go_wp2_with fail
    refine p.mono ?_;rintro e l ⟨rfl,rfl⟩;go_wp2_with (go_at_call 85;refine(MF _ mT _ _).mono ?_;rintro e l ⟨rfl,i⟩;have j:=Hd i;clear i)
    go_ret2
    exact⟨_,rfl,j⟩
  ·have J:((s[1+k].toNat:Int) != 39)=true:=by
    rw[bne_iff_ne];intro e;exact o (UInt8.toNat_inj.1 (by show s[1+k].toNat=39;omega))
   clear h o;go_enter Tryz.func136,Tryz.ntmps136
   go_wp2_with fail
   refine p.mono ?_;rintro e l ⟨rfl,rfl⟩;go_wp2_with (go_at_call 85;refine(MF _ mT _ _).mono ?_;rintro e l ⟨rfl,i⟩;have j:=Hd i;clear i)
   go_ret2
   exact⟨_,rfl,j⟩
 ·clear h
  go_enter Tryz.func136,Tryz.ntmps136
  go_wp2_with fail
  refine p.mono ?_;rintro e l ⟨rfl,rfl⟩;go_wp2_with (go_at_call 85;refine(MF _ mT _ _).mono ?_;rintro e l ⟨rfl,i⟩;have j:=Hd i;clear i)
  go_ret2
  exact⟨_,rfl,j⟩
def iU(s:ByteArray):s.toList=s.data.toList:=ByteArray.toList_eq s
def CG(l:List UInt8):Bool:=l.head?==nJ 39&&(decide (1+Bs (l.drop 1)<l.length)&&(l[1+Bs (l.drop 1)]?==nJ 39)&&(Bs (l.drop 1) != 0)&&decide (1+Bs (l.drop 1)<24))&&(Bs (l.drop 1)+2==l.length)
def dP{s:ByteArray}(h:KL s)(h0:s.data.toList.head?=nJ 39):CG s.data.toList=(Bs (s.data.toList.drop 1)+2==s.size):=by obtain⟨i,j,l,o⟩:=h;unfold CG;rw[h0,j,Il,decide_eq_true i,decide_eq_true o,show (Bs (s.data.toList.drop 1) != 0)=true from bne_iff_ne.2 l];rfl
theorem VN{s:ByteArray}(h:¬KL s):CG s.data.toList=false:=by
 cases i:CG s.data.toList with
 | false=>rfl
 | true=>exfalso;unfold CG at i;simp only[Bool.and_eq_true,decide_eq_true_eq,beq_iff_eq,bne_iff_ne,ne_eq,Il]at i;exact h ⟨i.1.2.1.1.1,i.1.2.1.1.2,i.1.2.1.2,i.1.2.2⟩
def XW{l:List UInt8}(h:l.head?≠nJ 39):CG l=false:=by unfold CG;rw[bN.2 h];rfl
def SD(s:ByteArray)(h:0<s.size):s.data.toList.head?=nJ s[0]:=by rw[List.head?_eq_getElem?];exact get_some s 0 h
def fM{s:ByteArray}(h:s.size=0):s=⟨#[]⟩:=by have:s.data.toList=[]:=List.eq_nil_of_length_eq_zero (by rw[Il];exact h);exact ByteArray.ext (Array.ext' this)
def XH(s:ByteArray)(C:s.size<=4611686018427387904)(w:nS):() 100 #[nH s] w fun e w'=>e=nP (nI (CG s.data.toList))/\Below w w w':=by
 by_cases h0:s.size=0
 ·obtain rfl:=fM h0
  go_enter Tryz.func100,Tryz.ntmps100
  go_wp2;go_ret;exact⟨rfl,Below.refl _ _⟩
 have p:0<s.size:=by omega
 have P:s.toList.isEmpty=false:=by rw[iU,Ob];exact decide_eq_false h0
 by_cases i:s[0]=39
 ·have J:((s[0].toNat:Int) != 39)=false:=by rw[i];rfl
  have o:s.data.toList.head?=nJ 39:=by rw[SD s p,i]
  by_cases j:KL s
  ·have l:=Hd (eU s C j w)
   rw[dP j o];clear j o i h0;generalize Bs (s.data.toList.drop 1)=k at *;go_enter Tryz.func100,Tryz.ntmps100
   go_wp2_with fail
   refine l.mono ?_;rintro e w' ⟨rfl,rfl⟩;go_wp2;go_ret;refine⟨C9 ?_,Below.refl _ _⟩;rw[Bool.eq_iff_iff,beq_iff_eq,beq_iff_eq];omega
  ·have l:=Hd (iX s C p j w)
   rw[VN j];clear j o i h0;go_enter Tryz.func100,Tryz.ntmps100
   go_wp2_with fail
   refine l.mono ?_;rintro e w' ⟨A,rfl,t⟩;have I:=Hd t;clear t;go_wp2;go_ret;exact⟨rfl,I⟩
 ·have J:((s[0].toNat:Int) != 39)=true:=by
   rw[bne_iff_ne];intro e;exact i (UInt8.toNat_inj.1 (by show s[0].toNat=39;omega))
  rw[XW (by rw[SD s p];simpa using i)];clear i h0;go_enter Tryz.func100,Tryz.ntmps100
  go_wp2;go_ret;exact⟨rfl,Below.refl _ _⟩
structure Ru where
 left:Int
 v:nU
 right:List Int
structure Gm where
 T:List ByteArray
 N:List ByteArray
 s:Int
 R:List Ru
def Kf(s:ByteArray):Bool:=CQ s.data.toList
def J9(s:ByteArray):Bool:=CQ s.data.toList||CG s.data.toList
def Iu(r:Ru):Bool:=decide (r.right.length<=8)
def Fv(a b:Ru):Bool:=a.left==b.left&&a.right==b.right
def Xn(l:List Int):Prop:=∀(i:Nat) (x y:Int),l[i]?=nJ x->l[i+1]?=nJ y->x<=y
def Un(l:List Ru):Prop:=∀(i j:Nat) (x r:Ru),j<i->l[j]?=nJ x->l[i]?=nJ r->Fv x r=false
namespace Gm
def term(g:Gm)(s:Int):Bool:=decide (1<=s)&&decide (s<=(g.T.length:Int))
def BK(g:Gm)(s:Int):Bool:=decide ((g.T.length:Int)<s)&&decide (s<=(g.T.length:Int)+(g.N.length:Int))
def sym(g:Gm)(s:Int):Bool:=g.term s||g.BK s
def B7(g:Gm):Bool:=(decide (g.T.length<=120)&&decide (g.N.length<=120))&&(decide (g.R.length<=300)&&g.R.all Iu)
def form(g:Gm):Bool:=g.T.all J9&&g.N.all Kf
def once(g:Gm):Bool:=decide ((g.T++g.N).Nodup)
def Hg(g:Gm)(r:Ru):Bool:=g.BK r.left&&r.right.all g.sym
def known(g:Gm):Bool:=g.BK g.s&&g.R.all g.Hg
open Classical in
noncomputable def G0 (g:Gm):Bool:=decide (Un g.R)
def left(k:Int)(r:Ru):Bool:=r.left==k
def each(g:Gm):Bool:=(List.range g.N.length).all fun i=>g.R.any (left ((g.T.length:Int)+1+i))
noncomputable def check (g:Gm):Int:=if g.B7 then(if g.form then(if g.once then(if g.known then(if g.G0 then(if g.each then 0 else 9) else 8) else 1) else 8) else 10) else 7
def first(g:Gm)(i:Nat):Nat:=g.R.findIdx (left ((g.T.length:Int)+1+i))
def OC(g:Gm):List Int:=(List.range g.N.length).map fun i=>(g.first i:Int)
open Classical in
noncomputable def ordered (g:Gm):Bool:=decide (Xn g.OC)
def name(g:Gm)(s:Int):ByteArray:=if s=0 then⟨#[36]⟩ else if s<1\/(g.T.length:Int)+(g.N.length:Int)<s then⟨#[]⟩ else(g.T++g.N).getD (s-1).toNat ⟨#[]⟩
def small(g:Gm):Prop:=(∀s∈g.T,s.size<=1048576)/\(∀s∈g.N,s.size<=1048576)/\g.T.length<=1048576/\g.N.length<=1048576/\g.R.length<=1048576/\∀r∈g.R,r.right.length<=1048576
end Gm
def str(l:List UInt8):ByteArray:=⟨l.toArray⟩
def Uv(a:ByteArray):str a.data.toList=a:=by unfold str;simp
def Ly(l:List UInt8):(str l).data.toList=l:=by unfold str;simp
def Kj(l:List UInt8):(str l).size=l.length:=by unfold str;rfl
def Cc(s:ByteArray):nU:=nH s
def BZ(n:Int):nU:=nE nM n
def DR(r:Ru):nU:=.agg #[r.left,r.v]
def BF(w:nS)(b:Bool)(e:Ending)(w':nS):Prop:=e=nP (nI b)/\Below w w w'
structure BD{α:Type}(E:α->nU)(w:nS)(v:nU)(l:List α):Prop where
 Fg:∃A c,v=nC A l.length c/\∀k x,l[k]?=nJ x->∃b off,A=nJ ⟨b,off,nK⟩/\b<w.heap.size/\w.cell? ⟨b,off+k,nK⟩=nJ (E x)
 short:l.length<=4611686018427387904
 room:∀A n c,v=nC A n c->n<=c/\(A=nK->c=0)
def BD.later{o:Type}{E:o->nU}{w:nS}{v:nU}{l:List o}(h:BD E w v l)(i:Below w w w'):BD E w' v l:=by obtain⟨⟨A,c,P,t⟩,J,I⟩:=h;refine⟨⟨A,c,P,fun k x R=>?_⟩,J,I⟩;obtain⟨b,off,p,j,C⟩:=t k x R;exact⟨b,off,p,AK j i.size,(i.cell (p:=(b,off+k)) j).trans C⟩
def BD.nil{E:i->nU}(w:nS)(A:Option Addr)(c:Nat)(h:A=nK->c=0):BD E w (nC A 0 c) []:=⟨⟨A,c,rfl,fun k x h=>by simp at h⟩,mV,fun _ _ _ e=>by cases e;exact⟨A0 _,h⟩⟩
def BD.take{p:Type}{E:p->nU}{w:nS}{n c:Nat}{l:List p}(h:BD E w (nC A n c) l)(k:Nat)(I:k<=n)(j:Nat)(C:k<=j/\(A=nK->j=0)):BD E w (nC A k j) (l.take k):=by
 obtain⟨⟨P,c1,J,t⟩,R⟩:=h;cases J
 refine⟨⟨A,j,by rw[List.length_take,Nat.min_eq_left I],fun i x o=>?_⟩,by rw[List.length_take];omega,fun _ _ _ e=>by cases e;exact C⟩;rw[List.getElem?_take]at o;split at o
 ·exact t i x o
 ·cases o
theorem BD.src{C:Type}{E:C->nU}{w:nS}{v:nU}{l:List C}(h:BD E w v l)(J:∀x,(E x).oneCell'=true):Ba w v l.length 1 (l.map E):=by
 obtain⟨⟨A,c,p,t⟩,hs,U⟩:=h;refine⟨fun u i=>?_,?_⟩
 ·obtain⟨x,_,rfl⟩:=List.mem_map.1 i
  exact J x
 ·cases A with
  | none=>
   left;have T:l=[]:=by
    cases l with
    | nil=>rfl
    | cons x r=>obtain⟨b,off,o,_⟩:=t 0 x rfl;cases o
   have h0:=(U _ _ _ p).2 rfl;subst T h0;exact⟨p,rfl,rfl⟩
  | some I=>
   right;refine⟨I,c,p,mV,fun j u i=>?_⟩;rw[pG]at i;obtain⟨x,hx,rfl⟩:=Option.map_eq_some_iff.1 i;obtain⟨b,off,o,_,R⟩:=t j x hx;cases o
   have P:((b,off):Addr).add j=(b,off+j):=by
    unfold Addr.add;split
    ·rename_i h0;simp_all
    ·rfl
   rw[P];exact R
structure E4(w:nS)(v:nU)(l:List Ru):Prop where
 Fg:∃A c,v=nC A l.length c/\∀k r,l[k]?=nJ r->∃b off,A=nJ ⟨b,off,nK⟩/\b<w.heap.size/\w.cell? ⟨b,off+k*2,nK⟩=nJ (nE nM r.left)/\w.cell? ⟨b,off+k*2+1,nK⟩=nJ r.v/\BD BZ w r.v r.right
 short:l.length<=4611686018427387904
 room:∀A n c,v=nC A n c->n<=c/\(A=nK->c=0)
variable{l:List Ru}
def E4.later{w:nS}{v:nU}(h:E4 w v l)(i:Below w w w'):E4 w' v l:=by obtain⟨⟨A,c,T,I⟩,R,P⟩:=h;refine⟨⟨A,c,T,fun k r J=>?_⟩,R,P⟩;obtain⟨b,off,C,j,o,p,t⟩:=I k r J;exact⟨b,off,C,AK j i.size,(i.cell (p:=(b,off+k*2)) j).trans o,(i.cell (p:=(b,off+k*2+1)) j).trans p,t.later i⟩
def E4.take{w:nS}{n c:Nat}(h:E4 w (nC A n c) l)(k:Nat)(C:k<=n)(j:Nat)(t:k<=j/\(A=nK->j=0)):E4 w (nC A k j) (l.take k):=by
 obtain⟨⟨J,c1,I,p⟩,P⟩:=h;cases I
 refine⟨⟨A,j,by rw[List.length_take,Nat.min_eq_left C],fun i x o=>?_⟩,by rw[List.length_take];omega,fun _ _ _ e=>by cases e;exact t⟩;rw[List.getElem?_take]at o;split at o
 ·exact p i x o
 ·cases o
def E4.mem{w:nS}{v:nU}(h:E4 w v l){r:Ru}(t:r∈l):BD BZ w r.v r.right:=by obtain⟨⟨A,c,I,j⟩,C⟩:=h;obtain⟨k,p,o⟩:=List.mem_iff_getElem.1 t;exact(j k r (by rw[<-o];exact eG p)).elim fun _ ⟨_,_,_,_,_,i⟩=>i
structure Ei(w:nS)(v:nU)(g:Gm):Prop where
 Fg:∃vT vN vR,v=.agg #[vT,vN,vR,g.s]/\BD Cc w vT g.T/\BD Cc w vN g.N/\E4 w vR g.R
 small:g.small
def Ei.later{w:nS}{v:nU}{g:Gm}(h:Ei w v g)(i:Below w w w'):Ei w' v g:=by obtain⟨⟨J,C,I,t,j,l,o⟩,p⟩:=h;exact⟨⟨J,C,I,t,j.later i,l.later i,o.later i⟩,p⟩
structure TU(w:nS)(v:nU)(r:Ru):Prop where
 Fg:v=DR r
 right:BD BZ w r.v r.right
def GM{i:Type}(p:i->Bool)(l:List i):Int:=if l.any p then(l.findIdx p:Nat) else -1
def NW{p:i->Bool}{l:List i}{k:Nat}{x:i}(J:l[k]?=nJ x)(t:p x=true)(C:∀j y,j<k->l[j]?=nJ y->p y=false):GM p l=k:=by obtain⟨o,rfl⟩:=sG.1 J;unfold GM;rw[if_pos (List.any_eq_true.2 ⟨_,List.getElem_mem o,t⟩)];congr 1;rw[List.findIdx_eq o];exact⟨t,fun j I=>C j _ I (eG mR)⟩
def NM{t:Type}{p:t->Bool}{l:List t}(C:∀j y,j<l.length->l[j]?=nJ y->p y=false):GM p l = -1:=by unfold GM;rw[if_neg];rw[List.any_eq_true];rintro⟨x,J,o⟩;obtain⟨k,i,I⟩:=List.mem_iff_getElem.1 J;rw[C k x i (by rw[<-I];exact eG i)]at o;cases o
theorem Oi(p:i->Bool)(l:List i):decide (0<=GM p l)=l.any p:=by
 unfold GM;cases h:l.any p with
 | true=>rw[if_pos rfl,decide_eq_true_eq];omega
 | false=>rw[if_neg mV,decide_eq_false_iff_not];omega
def AE(w:nS)(o:Obj):Below w w (w.alloc o):=(Below.refl _ w).alloc (AF _) o
def Et{w:nS}{o:Obj}(h:Below (w.alloc o).heap.size (w.alloc o) w'):Below w w w':=
 ((Below.refl _ w).alloc (AF _) o).trans (h.mono mV)
def NF(p:i->Bool)(l:List i):(!l.any fun x=>!p x)=l.all p:=by rw[List.all_eq_not_any_not]
